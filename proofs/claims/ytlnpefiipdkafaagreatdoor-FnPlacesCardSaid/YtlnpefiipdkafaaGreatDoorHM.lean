/-
  The reference's count of places.
-/
import Derived.Test.YtlnpefiipdkafaaGreatDoorHJ
import Derived.Test.YtlnpefiipdkafaaGreatDoorHC
import Derived.Test.YtlnpefiipdkafaaGreatDoorHK
import Derived.Test.YtlnpefiipdkafaaGreatDoorHA
import Derived.Test.YtlnpefiipdkafaaGreatDoorHB
import Derived.Test.YtlnpefiipdkafaaGreatDoorGJ
namespace Go.Proofs.YtlnpefiipdkafaaGreatDoor
open Go.RowKit

set_option maxHeartbeats 2000000 in
set_option maxRecDepth 10000 in
theorem sCount_any {vl:Value} {cs:List CellD} {a b c:Value} {d:DesignD} (w:World) (hl:RCells w vl cs) (hd:RDesign w [a,b,c] d) :
  Calls Tryz.prog 12 #[.agg #[vl],.agg #[a,b,c]] w fun e w'=>e=.returned (.int .i64 (countV cs d))∧Grows w w':=by
 have cl:=RList.len hl
 obtain ⟨C,nc,rfl⟩:∃(D:Option Addr) (q:Nat),vl=.slice D cs.length q:=by obtain ⟨D,q,e,-⟩:=RList.form hl;exact ⟨D,q,e⟩
 have il:=RList.len hd.parts.1
 have nl:=RList.len hd.parts.2.1
 have ol:=RList.len hd.parts.2.2
 obtain ⟨I,N,O,ni,nn,no,rfl,rfl,rfl⟩:=des_open hd
 have g:Grows w w:=Grows.refl w
 have G:Hid (Grows w ((w.alloc (.cells #[.slice C cs.length nc] 26)).alloc (.cells #[.slice I d.insts.length ni,.slice N d.nets.length nn,.slice O d.ports.length no] 31))):=hideIt (((Grows.refl w).alloc _).alloc _)
 clear g
 have SL:Hid (Blk ((w.alloc (.cells #[.slice C cs.length nc] 26)).alloc (.cells #[.slice I d.insts.length ni,.slice N d.nets.length nn,.slice O d.ports.length no] 31)) (w.heap.size) 26 #[.slice C cs.length nc]):=by
  have:=(Blk.new w 26 #[.slice C cs.length nc]).grows ((Grows.refl (w.alloc (.cells #[.slice C cs.length nc] 26))).alloc (.cells #[.slice I d.insts.length ni,.slice N d.nets.length nn,.slice O d.ports.length no] 31))
  exact hideIt (by simpa using this)
 have SD:Hid (Blk ((w.alloc (.cells #[.slice C cs.length nc] 26)).alloc (.cells #[.slice I d.insts.length ni,.slice N d.nets.length nn,.slice O d.ports.length no] 31)) (w.heap.size+1) 31 #[.slice I d.insts.length ni,.slice N d.nets.length nn,.slice O d.ports.length no]):=by
  have:=(Blk.new (w.alloc (.cells #[.slice C cs.length nc] 26)) 31 #[.slice I d.insts.length ni,.slice N d.nets.length nn,.slice O d.ports.length no]).grows (Grows.refl ((w.alloc (.cells #[.slice C cs.length nc] 26)).alloc (.cells #[.slice I d.insts.length ni,.slice N d.nets.length nn,.slice O d.ports.length no] 31)))
  exact hideIt (by simpa using this)
 replace hl:=hideIt (hl.keep G.out.keeps)
 replace hd:=hideIt (hd.keep G.out.keeps)
 go_enter Tryz.func12,Tryz.ntmps12
 go_wp2_with fail
 refine (sIsDes_any _ hl.out hd.out).mono ?_
 rintro e u1 ⟨rfl,g⟩
 replace G:=hideIt (G.out.trans g)
 replace hl:=hideIt (hl.out.keep g.keeps)
 replace hd:=hideIt (hd.out.keep g.keeps)
 replace SL:=hideIt (SL.out.grows g)
 replace SD:=hideIt (SD.out.grows g)
 clear g
 have kSL_0:u1.cell? ⟨w.heap.size,0,none⟩=some (.slice C cs.length nc):=SL.out.cell 0
 have fSL:=SL.out.frozen
 have lSL:w.heap.size<u1.heap.size:=SL.out.lt
 have kSD_0:u1.cell? ⟨w.heap.size+1,0,none⟩=some (.slice I d.insts.length ni):=SD.out.cell 0
 have kSD_1:u1.cell? ⟨w.heap.size+1,1,none⟩=some (.slice N d.nets.length nn):=SD.out.cell 1
 have kSD_2:u1.cell? ⟨w.heap.size+1,2,none⟩=some (.slice O d.ports.length no):=SD.out.cell 2
 have fSD:=SD.out.frozen
 have lSD:w.heap.size+1<u1.heap.size:=SD.out.lt
 cases hc:desB cs d
 ·have E2:=hideIt (show (countV cs d)=-1 from if_neg (by rw [hc];decide))
  clear hc
  go_wp2
  go_ret
  exact ⟨ret_int E2.out.symm,G.out⟩
 ·have DP:=hideIt (pB_iff.1 (show pB (DesP cs d)=true from hc))
  have E2:=hideIt (show (countV cs d)=((placesL d).length:Int) from if_pos hc)
  clear hc
  go_wp2_with fail
  clear kSL_0 fSL lSL kSD_0 kSD_1 kSD_2 fSD lSD
  refine (sPlaces_any _ hd.out DP.out).mono ?_
  rintro e u2 ⟨v,rfl,rp,g⟩
  replace G:=hideIt (G.out.trans g)
  replace hl:=hideIt (hl.out.keep g.keeps)
  replace hd:=hideIt (hd.out.keep g.keeps)
  replace SL:=hideIt (SL.out.grows g)
  replace SD:=hideIt (SD.out.grows g)
  clear g
  have kSL_0:u2.cell? ⟨w.heap.size,0,none⟩=some (.slice C cs.length nc):=SL.out.cell 0
  have fSL:=SL.out.frozen
  have lSL:w.heap.size<u2.heap.size:=SL.out.lt
  have kSD_0:u2.cell? ⟨w.heap.size+1,0,none⟩=some (.slice I d.insts.length ni):=SD.out.cell 0
  have kSD_1:u2.cell? ⟨w.heap.size+1,1,none⟩=some (.slice N d.nets.length nn):=SD.out.cell 1
  have kSD_2:u2.cell? ⟨w.heap.size+1,2,none⟩=some (.slice O d.ports.length no):=SD.out.cell 2
  have fSD:=SD.out.frozen
  have lSD:w.heap.size+1<u2.heap.size:=SD.out.lt
  have pl:=places_len DP.out
  obtain ⟨A,m,rfl⟩:∃(D:Option Addr) (q:Nat),v=.slice D (placesL d).length q:=by obtain ⟨D,q,e,-⟩:=RList.form rp;exact ⟨D,q,e⟩
  go_wp2
  go_ret
  exact ⟨ret_int E2.out.symm,G.out⟩

end Go.Proofs.YtlnpefiipdkafaaGreatDoor
/-
  The program's functions over places.
-/
namespace Go.Proofs.YtlnpefiipdkafaaGreatDoor
open Go.RowKit

set_option maxHeartbeats 1000000 in
theorem placeOf1_any (i:Int) (q:Int) (p:PlaceD) (c0 c1 c2 c3:Value) (g0:Nat) (g1:Nat) (W:World) (hr:RPlace W [c0,c1,c2,c3] p) (hb0:W.cell? ⟨g0,0,none⟩=some (.int .i64 i)) (hb1:W.cell? ⟨g1,0,none⟩=some (.int .i64 q)) :
  Calls Tryz.prog 92 #[.agg #[c0,c1,c2,c3],.pointer (some ⟨g0,0,none⟩),.pointer (some ⟨g1,0,none⟩)] W fun e W'=>e=.returned (.bool (isAt i q p))∧Grows W W':=by
 unfold RPlace at hr
 injection hr with e0 hr
 injection hr with e1 hr
 injection hr with e2 hr
 injection hr with e3 hr
 subst e0 e1 e2 e3
 clear hr
 have lb0:=cell_lt hb0
 simp at lb0
 have lb1:=cell_lt hb1
 simp at lb1
 by_cases e1:p.inst=i
 ·have t1:(p.inst==i)=true:=beq_iff_eq.2 e1
  by_cases e2:p.pin=q
  ·have t2:(p.pin==q)=true:=beq_iff_eq.2 e2
   have EV:=hideIt (show (isAt i q) p=true by unfold isAt;simp [e1,e2])
   clear e1 e2
   go_enter Tryz.func92,Tryz.ntmps92
   go_wp2
   go_ret
   exact ⟨ret_bool EV.out.symm,(Grows.refl _).alloc _⟩
  ·have t2:(p.pin==q)=false:=beq_eq_false_iff_ne.2 e2
   have EV:=hideIt (show (isAt i q) p=false by unfold isAt;simp [e1,e2])
   clear e1 e2
   go_enter Tryz.func92,Tryz.ntmps92
   go_wp2
   go_ret
   exact ⟨ret_bool EV.out.symm,(Grows.refl _).alloc _⟩
 ·have t1:(p.inst==i)=false:=beq_eq_false_iff_ne.2 e1
  have EV:=hideIt (show (isAt i q) p=false by unfold isAt;simp [e1])
  clear e1
  go_enter Tryz.func92,Tryz.ntmps92
  go_wp2
  go_ret
  exact ⟨ret_bool EV.out.symm,(Grows.refl _).alloc _⟩

set_option maxHeartbeats 2000000 in
set_option maxRecDepth 10000 in
theorem iPlaceOf_in {a b c:Value} {d:DesignD} {cs:List CellD} (i:Int) (q:Int) (w:World) (hd:RDesign w [a,b,c] d) (hp:DesP cs d) :
  Calls Tryz.prog 54 #[.agg #[a,b,c],.int .i64 i,.int .i64 q] w fun e w'=>e=.returned (.int .i64 (idxF (isAt i q) (placesL d)))∧Grows w w':=by
 have il:=RList.len hd.parts.1
 have nl:=RList.len hd.parts.2.1
 have ol:=RList.len hd.parts.2.2
 obtain ⟨I,N,O,ni,nn,no,rfl,rfl,rfl⟩:=des_open hd
 have DP:=hideIt hp
 clear hp
 have g:Grows w w:=Grows.refl w
 have G:Hid (Grows w (((w.alloc (.cells #[.slice I d.insts.length ni,.slice N d.nets.length nn,.slice O d.ports.length no] 31)).alloc (.cells #[.int .i64 i] 2)).alloc (.cells #[.int .i64 q] 2))):=hideIt ((((Grows.refl w).alloc _).alloc _).alloc _)
 clear g
 have SD:Hid (Blk (((w.alloc (.cells #[.slice I d.insts.length ni,.slice N d.nets.length nn,.slice O d.ports.length no] 31)).alloc (.cells #[.int .i64 i] 2)).alloc (.cells #[.int .i64 q] 2)) (w.heap.size) 31 #[.slice I d.insts.length ni,.slice N d.nets.length nn,.slice O d.ports.length no]):=by
  have:=(Blk.new w 31 #[.slice I d.insts.length ni,.slice N d.nets.length nn,.slice O d.ports.length no]).grows (((Grows.refl (w.alloc (.cells #[.slice I d.insts.length ni,.slice N d.nets.length nn,.slice O d.ports.length no] 31))).alloc (.cells #[.int .i64 i] 2)).alloc (.cells #[.int .i64 q] 2))
  exact hideIt (by simpa using this)
 have BI:Hid (Blk (((w.alloc (.cells #[.slice I d.insts.length ni,.slice N d.nets.length nn,.slice O d.ports.length no] 31)).alloc (.cells #[.int .i64 i] 2)).alloc (.cells #[.int .i64 q] 2)) (w.heap.size+1) 2 #[.int .i64 i]):=by
  have:=(Blk.new (w.alloc (.cells #[.slice I d.insts.length ni,.slice N d.nets.length nn,.slice O d.ports.length no] 31)) 2 #[.int .i64 i]).grows ((Grows.refl ((w.alloc (.cells #[.slice I d.insts.length ni,.slice N d.nets.length nn,.slice O d.ports.length no] 31)).alloc (.cells #[.int .i64 i] 2))).alloc (.cells #[.int .i64 q] 2))
  exact hideIt (by simpa using this)
 have BQ:Hid (Blk (((w.alloc (.cells #[.slice I d.insts.length ni,.slice N d.nets.length nn,.slice O d.ports.length no] 31)).alloc (.cells #[.int .i64 i] 2)).alloc (.cells #[.int .i64 q] 2)) (w.heap.size+1+1) 2 #[.int .i64 q]):=by
  have:=(Blk.new ((w.alloc (.cells #[.slice I d.insts.length ni,.slice N d.nets.length nn,.slice O d.ports.length no] 31)).alloc (.cells #[.int .i64 i] 2)) 2 #[.int .i64 q]).grows (Grows.refl (((w.alloc (.cells #[.slice I d.insts.length ni,.slice N d.nets.length nn,.slice O d.ports.length no] 31)).alloc (.cells #[.int .i64 i] 2)).alloc (.cells #[.int .i64 q] 2)))
  exact hideIt (by simpa using this)
 replace hd:=hideIt (hd.keep G.out.keeps)
 go_enter Tryz.func54,Tryz.ntmps54
 go_wp2_with fail
 refine (iPlaces_any _ hd.out DP.out).mono ?_
 rintro e u1 ⟨v,rfl,rp,g⟩
 replace G:=hideIt (G.out.trans g)
 replace hd:=hideIt (hd.out.keep g.keeps)
 replace SD:=hideIt (SD.out.grows g)
 replace BI:=hideIt (BI.out.grows g)
 replace BQ:=hideIt (BQ.out.grows g)
 clear g
 have kSD_0:u1.cell? ⟨w.heap.size,0,none⟩=some (.slice I d.insts.length ni):=SD.out.cell 0
 have kSD_1:u1.cell? ⟨w.heap.size,1,none⟩=some (.slice N d.nets.length nn):=SD.out.cell 1
 have kSD_2:u1.cell? ⟨w.heap.size,2,none⟩=some (.slice O d.ports.length no):=SD.out.cell 2
 have fSD:=SD.out.frozen
 have lSD:w.heap.size<u1.heap.size:=SD.out.lt
 have kBI_0:u1.cell? ⟨w.heap.size+1,0,none⟩=some (.int .i64 i):=BI.out.cell 0
 have fBI:=BI.out.frozen
 have lBI:w.heap.size+1<u1.heap.size:=BI.out.lt
 have kBQ_0:u1.cell? ⟨w.heap.size+1+1,0,none⟩=some (.int .i64 q):=BQ.out.cell 0
 have fBQ:=BQ.out.frozen
 have lBQ:w.heap.size+1+1<u1.heap.size:=BQ.out.lt
 replace rp:=hideIt rp
 go_wp2_with fail
 refine (indexFuncPlace_any 92 _ (fun args W=>enters_of Tryz.func92 (by kernel_rfl) rfl args W) (isAt i q) _ rp.out ?_).mono ?_
 ·intro y c0 c1 c2 c3 W _ gw hr
  exact placeOf1_any i q y c0 c1 c2 c3 _ _ W hr (gw.keeps _ _ kBI_0) (gw.keeps _ _ kBQ_0)
 rintro e w9 ⟨rfl,g⟩
 have G9:=hideIt (G.out.trans g)
 clear g
 go_wp2
 go_ret
 exact ⟨ret_int rfl,G9.out⟩

set_option maxHeartbeats 2000000 in
set_option maxRecDepth 10000 in
theorem iPlaceOf_any {vl:Value} {cs:List CellD} {a b c:Value} {d:DesignD} (i:Int) (q:Int) (w:World) (hl:RCells w vl cs) (hd:RDesign w [a,b,c] d) (hsl:SmCells cs) (hsd:SmDesign d) :
  Calls Tryz.prog 19 #[.agg #[vl],.agg #[a,b,c],.int .i64 i,.int .i64 q] w fun e w'=>e=.returned (.int .i64 (findV cs d i q))∧Grows w w':=by
 have cl:=RList.len hl
 obtain ⟨C,nc,rfl⟩:∃(D:Option Addr) (q:Nat),vl=.slice D cs.length q:=by obtain ⟨D,q,e,-⟩:=RList.form hl;exact ⟨D,q,e⟩
 have il:=RList.len hd.parts.1
 have nl:=RList.len hd.parts.2.1
 have ol:=RList.len hd.parts.2.2
 obtain ⟨I,N,O,ni,nn,no,rfl,rfl,rfl⟩:=des_open hd
 have SA:=hideIt hsl
 have SB:=hideIt hsd
 clear hsl hsd
 have g:Grows w w:=Grows.refl w
 have G:Hid (Grows w ((w.alloc (.cells #[.slice C cs.length nc] 26)).alloc (.cells #[.slice I d.insts.length ni,.slice N d.nets.length nn,.slice O d.ports.length no] 31))):=hideIt (((Grows.refl w).alloc _).alloc _)
 clear g
 have SL:Hid (Blk ((w.alloc (.cells #[.slice C cs.length nc] 26)).alloc (.cells #[.slice I d.insts.length ni,.slice N d.nets.length nn,.slice O d.ports.length no] 31)) (w.heap.size) 26 #[.slice C cs.length nc]):=by
  have:=(Blk.new w 26 #[.slice C cs.length nc]).grows ((Grows.refl (w.alloc (.cells #[.slice C cs.length nc] 26))).alloc (.cells #[.slice I d.insts.length ni,.slice N d.nets.length nn,.slice O d.ports.length no] 31))
  exact hideIt (by simpa using this)
 have SD:Hid (Blk ((w.alloc (.cells #[.slice C cs.length nc] 26)).alloc (.cells #[.slice I d.insts.length ni,.slice N d.nets.length nn,.slice O d.ports.length no] 31)) (w.heap.size+1) 31 #[.slice I d.insts.length ni,.slice N d.nets.length nn,.slice O d.ports.length no]):=by
  have:=(Blk.new (w.alloc (.cells #[.slice C cs.length nc] 26)) 31 #[.slice I d.insts.length ni,.slice N d.nets.length nn,.slice O d.ports.length no]).grows (Grows.refl ((w.alloc (.cells #[.slice C cs.length nc] 26)).alloc (.cells #[.slice I d.insts.length ni,.slice N d.nets.length nn,.slice O d.ports.length no] 31)))
  exact hideIt (by simpa using this)
 replace hl:=hideIt (hl.keep G.out.keeps)
 replace hd:=hideIt (hd.keep G.out.keeps)
 go_enter Tryz.func19,Tryz.ntmps19
 go_wp2_with fail
 refine (iIsDes_any _ hl.out hd.out SA.out SB.out).mono ?_
 rintro e u1 ⟨rfl,g⟩
 replace G:=hideIt (G.out.trans g)
 replace hl:=hideIt (hl.out.keep g.keeps)
 replace hd:=hideIt (hd.out.keep g.keeps)
 replace SL:=hideIt (SL.out.grows g)
 replace SD:=hideIt (SD.out.grows g)
 clear g
 have kSL_0:u1.cell? ⟨w.heap.size,0,none⟩=some (.slice C cs.length nc):=SL.out.cell 0
 have fSL:=SL.out.frozen
 have lSL:w.heap.size<u1.heap.size:=SL.out.lt
 have kSD_0:u1.cell? ⟨w.heap.size+1,0,none⟩=some (.slice I d.insts.length ni):=SD.out.cell 0
 have kSD_1:u1.cell? ⟨w.heap.size+1,1,none⟩=some (.slice N d.nets.length nn):=SD.out.cell 1
 have kSD_2:u1.cell? ⟨w.heap.size+1,2,none⟩=some (.slice O d.ports.length no):=SD.out.cell 2
 have fSD:=SD.out.frozen
 have lSD:w.heap.size+1<u1.heap.size:=SD.out.lt
 cases hc:desB cs d
 ·have E2:=hideIt (show (findV cs d i q)=-1 from if_neg (by rw [hc];decide))
  clear hc
  go_wp2
  go_ret
  exact ⟨ret_int E2.out.symm,G.out⟩
 ·have DP:=hideIt (pB_iff.1 (show pB (DesP cs d)=true from hc))
  have E2:=hideIt (show (findV cs d i q)=idxF (isAt i q) (placesL d) from if_pos hc)
  clear hc
  go_wp2_with fail
  clear kSL_0 fSL lSL kSD_0 kSD_1 kSD_2 fSD lSD
  refine (iPlaceOf_in i q _ hd.out DP.out).mono ?_
  rintro e u2 ⟨rfl,g⟩
  replace G:=hideIt (G.out.trans g)
  replace hl:=hideIt (hl.out.keep g.keeps)
  replace hd:=hideIt (hd.out.keep g.keeps)
  replace SL:=hideIt (SL.out.grows g)
  replace SD:=hideIt (SD.out.grows g)
  clear g
  have kSL_0:u2.cell? ⟨w.heap.size,0,none⟩=some (.slice C cs.length nc):=SL.out.cell 0
  have fSL:=SL.out.frozen
  have lSL:w.heap.size<u2.heap.size:=SL.out.lt
  have kSD_0:u2.cell? ⟨w.heap.size+1,0,none⟩=some (.slice I d.insts.length ni):=SD.out.cell 0
  have kSD_1:u2.cell? ⟨w.heap.size+1,1,none⟩=some (.slice N d.nets.length nn):=SD.out.cell 1
  have kSD_2:u2.cell? ⟨w.heap.size+1,2,none⟩=some (.slice O d.ports.length no):=SD.out.cell 2
  have fSD:=SD.out.frozen
  have lSD:w.heap.size+1<u2.heap.size:=SD.out.lt
  go_wp2
  go_ret
  exact ⟨ret_int E2.out.symm,G.out⟩

set_option maxHeartbeats 4000000 in
set_option maxRecDepth 10000 in
theorem iAt_any {vl:Value} {cs:List CellD} {a b c:Value} {d:DesignD} (n:Int) (w:World) (hl:RCells w vl cs) (hd:RDesign w [a,b,c] d) (hsl:SmCells cs) (hsd:SmDesign d) :
  Calls Tryz.prog 49 #[.agg #[vl],.agg #[a,b,c],.int .i64 n] w fun e w'=>e=.returned (.tuple #[plV (atV cs d n),.bool (atB cs d n)])∧Grows w w':=by
 have cl:=RList.len hl
 obtain ⟨C,nc,rfl⟩:∃(D:Option Addr) (q:Nat),vl=.slice D cs.length q:=by obtain ⟨D,q,e,-⟩:=RList.form hl;exact ⟨D,q,e⟩
 have il:=RList.len hd.parts.1
 have nl:=RList.len hd.parts.2.1
 have ol:=RList.len hd.parts.2.2
 obtain ⟨I,N,O,ni,nn,no,rfl,rfl,rfl⟩:=des_open hd
 have SA:=hideIt hsl
 have SB:=hideIt hsd
 clear hsl hsd
 have g:Grows w w:=Grows.refl w
 have G:Hid (Grows w (((w.alloc (.cells #[.slice C cs.length nc] 26)).alloc (.cells #[.slice I d.insts.length ni,.slice N d.nets.length nn,.slice O d.ports.length no] 31)).alloc (.cells #[.int .i64 0,.int .i64 0,.int .i64 0,.bool false] 67))):=hideIt ((((Grows.refl w).alloc _).alloc _).alloc _)
 clear g
 have SL:Hid (Blk (((w.alloc (.cells #[.slice C cs.length nc] 26)).alloc (.cells #[.slice I d.insts.length ni,.slice N d.nets.length nn,.slice O d.ports.length no] 31)).alloc (.cells #[.int .i64 0,.int .i64 0,.int .i64 0,.bool false] 67)) (w.heap.size) 26 #[.slice C cs.length nc]):=by
  have:=(Blk.new w 26 #[.slice C cs.length nc]).grows (((Grows.refl (w.alloc (.cells #[.slice C cs.length nc] 26))).alloc (.cells #[.slice I d.insts.length ni,.slice N d.nets.length nn,.slice O d.ports.length no] 31)).alloc (.cells #[.int .i64 0,.int .i64 0,.int .i64 0,.bool false] 67))
  exact hideIt (by simpa using this)
 have SD:Hid (Blk (((w.alloc (.cells #[.slice C cs.length nc] 26)).alloc (.cells #[.slice I d.insts.length ni,.slice N d.nets.length nn,.slice O d.ports.length no] 31)).alloc (.cells #[.int .i64 0,.int .i64 0,.int .i64 0,.bool false] 67)) (w.heap.size+1) 31 #[.slice I d.insts.length ni,.slice N d.nets.length nn,.slice O d.ports.length no]):=by
  have:=(Blk.new (w.alloc (.cells #[.slice C cs.length nc] 26)) 31 #[.slice I d.insts.length ni,.slice N d.nets.length nn,.slice O d.ports.length no]).grows ((Grows.refl ((w.alloc (.cells #[.slice C cs.length nc] 26)).alloc (.cells #[.slice I d.insts.length ni,.slice N d.nets.length nn,.slice O d.ports.length no] 31))).alloc (.cells #[.int .i64 0,.int .i64 0,.int .i64 0,.bool false] 67))
  exact hideIt (by simpa using this)
 have RB:Hid (Blk (((w.alloc (.cells #[.slice C cs.length nc] 26)).alloc (.cells #[.slice I d.insts.length ni,.slice N d.nets.length nn,.slice O d.ports.length no] 31)).alloc (.cells #[.int .i64 0,.int .i64 0,.int .i64 0,.bool false] 67)) (w.heap.size+1+1) 67 #[.int .i64 0,.int .i64 0,.int .i64 0,.bool false]):=by
  have:=(Blk.new ((w.alloc (.cells #[.slice C cs.length nc] 26)).alloc (.cells #[.slice I d.insts.length ni,.slice N d.nets.length nn,.slice O d.ports.length no] 31)) 67 #[.int .i64 0,.int .i64 0,.int .i64 0,.bool false]).grows (Grows.refl (((w.alloc (.cells #[.slice C cs.length nc] 26)).alloc (.cells #[.slice I d.insts.length ni,.slice N d.nets.length nn,.slice O d.ports.length no] 31)).alloc (.cells #[.int .i64 0,.int .i64 0,.int .i64 0,.bool false] 67)))
  exact hideIt (by simpa using this)
 replace hl:=hideIt (hl.keep G.out.keeps)
 replace hd:=hideIt (hd.keep G.out.keeps)
 go_enter Tryz.func49,Tryz.ntmps49
 go_wp2_with fail
 refine (iIsDes_any _ hl.out hd.out SA.out SB.out).mono ?_
 rintro e u1 ⟨rfl,g⟩
 replace G:=hideIt (G.out.trans g)
 replace hl:=hideIt (hl.out.keep g.keeps)
 replace hd:=hideIt (hd.out.keep g.keeps)
 replace SL:=hideIt (SL.out.grows g)
 replace SD:=hideIt (SD.out.grows g)
 replace RB:=hideIt (RB.out.grows g)
 clear g
 have kSL_0:u1.cell? ⟨w.heap.size,0,none⟩=some (.slice C cs.length nc):=SL.out.cell 0
 have fSL:=SL.out.frozen
 have lSL:w.heap.size<u1.heap.size:=SL.out.lt
 have kSD_0:u1.cell? ⟨w.heap.size+1,0,none⟩=some (.slice I d.insts.length ni):=SD.out.cell 0
 have kSD_1:u1.cell? ⟨w.heap.size+1,1,none⟩=some (.slice N d.nets.length nn):=SD.out.cell 1
 have kSD_2:u1.cell? ⟨w.heap.size+1,2,none⟩=some (.slice O d.ports.length no):=SD.out.cell 2
 have fSD:=SD.out.frozen
 have lSD:w.heap.size+1<u1.heap.size:=SD.out.lt
 have kRB_0:u1.cell? ⟨w.heap.size+1+1,0,none⟩=some (.int .i64 0):=RB.out.cell 0
 have kRB_1:u1.cell? ⟨w.heap.size+1+1,1,none⟩=some (.int .i64 0):=RB.out.cell 1
 have kRB_2:u1.cell? ⟨w.heap.size+1+1,2,none⟩=some (.int .i64 0):=RB.out.cell 2
 have kRB_3:u1.cell? ⟨w.heap.size+1+1,3,none⟩=some (.bool false):=RB.out.cell 3
 have fRB:=RB.out.frozen
 have lRB:w.heap.size+1+1<u1.heap.size:=RB.out.lt
 cases hc:desB cs d
 ·have E1:=hideIt (atB_no (n:=n) hc)
  clear hc
  go_wp2
  refine bodyPost_ret (by simp [*,results,Tryz.results49,go_sem];try rfl) rfl ?_
  exact ⟨by rw [atV_no E1.out,E1.out];rfl,by repeat (first|exact G.out|exact G.out.drewN _|refine Grows.drew ?_|refine Grows.drewN ?_ _|refine Grows.setCell ?_ (by simp<;>omega) _|refine Grows.alloc ?_ _)⟩
 ·have DP:=hideIt (pB_iff.1 (show pB (DesP cs d)=true from hc))
  have E1:=hideIt (atB_eq (n:=n) hc)
  clear hc
  go_wp2_with fail
  clear kSL_0 fSL lSL kSD_0 kSD_1 kSD_2 fSD lSD kRB_0 kRB_1 kRB_2 kRB_3 fRB lRB
  refine (iPlaces_any _ hd.out DP.out).mono ?_
  rintro e u2 ⟨v,rfl,rp,g⟩
  replace G:=hideIt (G.out.trans g)
  replace hl:=hideIt (hl.out.keep g.keeps)
  replace hd:=hideIt (hd.out.keep g.keeps)
  replace SL:=hideIt (SL.out.grows g)
  replace SD:=hideIt (SD.out.grows g)
  replace RB:=hideIt (RB.out.grows g)
  have pl:=places_len DP.out
  obtain ⟨A,m,rfl⟩:∃(D:Option Addr) (q:Nat),v=.slice D (placesL d).length q:=by obtain ⟨D,q,e,-⟩:=RList.form rp;exact ⟨D,q,e⟩
  clear g
  have kSL_0:u2.cell? ⟨w.heap.size,0,none⟩=some (.slice C cs.length nc):=SL.out.cell 0
  have fSL:=SL.out.frozen
  have lSL:w.heap.size<u2.heap.size:=SL.out.lt
  have kSD_0:u2.cell? ⟨w.heap.size+1,0,none⟩=some (.slice I d.insts.length ni):=SD.out.cell 0
  have kSD_1:u2.cell? ⟨w.heap.size+1,1,none⟩=some (.slice N d.nets.length nn):=SD.out.cell 1
  have kSD_2:u2.cell? ⟨w.heap.size+1,2,none⟩=some (.slice O d.ports.length no):=SD.out.cell 2
  have fSD:=SD.out.frozen
  have lSD:w.heap.size+1<u2.heap.size:=SD.out.lt
  have kRB_0:u2.cell? ⟨w.heap.size+1+1,0,none⟩=some (.int .i64 0):=RB.out.cell 0
  have kRB_1:u2.cell? ⟨w.heap.size+1+1,1,none⟩=some (.int .i64 0):=RB.out.cell 1
  have kRB_2:u2.cell? ⟨w.heap.size+1+1,2,none⟩=some (.int .i64 0):=RB.out.cell 2
  have kRB_3:u2.cell? ⟨w.heap.size+1+1,3,none⟩=some (.bool false):=RB.out.cell 3
  have fRB:=RB.out.frozen
  have lRB:w.heap.size+1+1<u2.heap.size:=RB.out.lt
  replace rp:=hideIt rp
  go_wp2_with fail
  refine (lengthPlace_any _ rp.out).mono ?_
  rintro e wq ⟨rfl,rfl⟩
  go_wp2_with fail
  refine (within_any _ _ _ _).mono ?_
  rintro e wq ⟨rfl,rfl⟩
  cases hi:inB n 0 (((placesL d).length:Int) - 1)
  ·have E3:=hideIt (E1.out.trans hi)
   clear hi
   go_wp2
   refine bodyPost_ret (by simp [*,results,Tryz.results49,go_sem];try rfl) rfl ?_
   exact ⟨by rw [atV_no E3.out,E3.out];rfl,by repeat (first|exact G.out|exact G.out.drewN _|refine Grows.drew ?_|refine Grows.drewN ?_ _|refine Grows.setCell ?_ (by simp<;>omega) _|refine Grows.alloc ?_ _)⟩
  ·have E3:=hideIt (E1.out.trans hi)
   clear hi
   obtain ⟨-,n0,nlt,hat,-⟩:=atB_true E3.out
   obtain ⟨k,rfl⟩:=Int.eq_ofNat_of_zero_le n0
   rw [Int.toNat_natCast] at hat nlt
   obtain ⟨p,ep⟩:∃p,p=atV cs d (k:Int):=⟨_,rfl⟩
   rw [←ep] at hat
   have EP:=hideIt ep
   clear ep n0
   obtain ⟨bi,oi,rfl,q0,q1,q2,q3⟩:=place_at rp.out hat
   clear hat
   go_wp2
   refine bodyPost_ret (by simp [*,results,Tryz.results49,go_sem];try rfl) rfl ?_
   exact ⟨by rw [←EP.out,E3.out];rfl,by repeat (first|exact G.out|exact G.out.drewN _|refine Grows.drew ?_|refine Grows.drewN ?_ _|refine Grows.setCell ?_ (by simp<;>omega) _|refine Grows.alloc ?_ _)⟩

set_option maxHeartbeats 4000000 in
set_option maxRecDepth 10000 in
theorem iInstOf_any {vl:Value} {cs:List CellD} {a b c:Value} {d:DesignD} (n:Int) (w:World) (hl:RCells w vl cs) (hd:RDesign w [a,b,c] d) (hsl:SmCells cs) (hsd:SmDesign d) :
  Calls Tryz.prog 13 #[.agg #[vl],.agg #[a,b,c],.int .i64 n] w fun e w'=>e=.returned (.tuple #[.int .i64 (instV cs d n),.int .i64 (pinV cs d n)])∧Grows w w':=by
 have cl:=RList.len hl
 obtain ⟨C,nc,rfl⟩:∃(D:Option Addr) (q:Nat),vl=.slice D cs.length q:=by obtain ⟨D,q,e,-⟩:=RList.form hl;exact ⟨D,q,e⟩
 have il:=RList.len hd.parts.1
 have nl:=RList.len hd.parts.2.1
 have ol:=RList.len hd.parts.2.2
 obtain ⟨I,N,O,ni,nn,no,rfl,rfl,rfl⟩:=des_open hd
 have SA:=hideIt hsl
 have SB:=hideIt hsd
 clear hsl hsd
 have g:Grows w w:=Grows.refl w
 have G:Hid (Grows w ((w.alloc (.cells #[.slice C cs.length nc] 26)).alloc (.cells #[.slice I d.insts.length ni,.slice N d.nets.length nn,.slice O d.ports.length no] 31))):=hideIt (((Grows.refl w).alloc _).alloc _)
 clear g
 have SL:Hid (Blk ((w.alloc (.cells #[.slice C cs.length nc] 26)).alloc (.cells #[.slice I d.insts.length ni,.slice N d.nets.length nn,.slice O d.ports.length no] 31)) (w.heap.size) 26 #[.slice C cs.length nc]):=by
  have:=(Blk.new w 26 #[.slice C cs.length nc]).grows ((Grows.refl (w.alloc (.cells #[.slice C cs.length nc] 26))).alloc (.cells #[.slice I d.insts.length ni,.slice N d.nets.length nn,.slice O d.ports.length no] 31))
  exact hideIt (by simpa using this)
 have SD:Hid (Blk ((w.alloc (.cells #[.slice C cs.length nc] 26)).alloc (.cells #[.slice I d.insts.length ni,.slice N d.nets.length nn,.slice O d.ports.length no] 31)) (w.heap.size+1) 31 #[.slice I d.insts.length ni,.slice N d.nets.length nn,.slice O d.ports.length no]):=by
  have:=(Blk.new (w.alloc (.cells #[.slice C cs.length nc] 26)) 31 #[.slice I d.insts.length ni,.slice N d.nets.length nn,.slice O d.ports.length no]).grows (Grows.refl ((w.alloc (.cells #[.slice C cs.length nc] 26)).alloc (.cells #[.slice I d.insts.length ni,.slice N d.nets.length nn,.slice O d.ports.length no] 31)))
  exact hideIt (by simpa using this)
 replace hl:=hideIt (hl.keep G.out.keeps)
 replace hd:=hideIt (hd.keep G.out.keeps)
 go_enter Tryz.func13,Tryz.ntmps13
 go_wp2_with fail
 refine (iAt_any n _ hl.out hd.out SA.out SB.out).mono ?_
 rintro e u1 ⟨rfl,g⟩
 replace G:=hideIt (G.out.trans g)
 replace hl:=hideIt (hl.out.keep g.keeps)
 replace hd:=hideIt (hd.out.keep g.keeps)
 replace SL:=hideIt (SL.out.grows g)
 replace SD:=hideIt (SD.out.grows g)
 clear g
 have kSL_0:u1.cell? ⟨w.heap.size,0,none⟩=some (.slice C cs.length nc):=SL.out.cell 0
 have fSL:=SL.out.frozen
 have lSL:w.heap.size<u1.heap.size:=SL.out.lt
 have kSD_0:u1.cell? ⟨w.heap.size+1,0,none⟩=some (.slice I d.insts.length ni):=SD.out.cell 0
 have kSD_1:u1.cell? ⟨w.heap.size+1,1,none⟩=some (.slice N d.nets.length nn):=SD.out.cell 1
 have kSD_2:u1.cell? ⟨w.heap.size+1,2,none⟩=some (.slice O d.ports.length no):=SD.out.cell 2
 have fSD:=SD.out.frozen
 have lSD:w.heap.size+1<u1.heap.size:=SD.out.lt
 have AB:=hideIt (fun h=>atB_true (l:=cs) (d:=d) (n:=n) h)
 obtain ⟨p,ep⟩:∃p,p=atV cs d n:=⟨_,rfl⟩
 rw [←ep]
 have EP:=hideIt ep
 clear ep
 unfold plV
 cases hB:atB cs d n
 ·have E3:=hideIt hB
  clear hB
  go_wp2
  go_ret2
  exact ⟨ret_two (show (-1:Int)=instV cs d n by unfold instV;rw [if_neg (by rw [E3.out];decide)]) (show (-1:Int)=pinV cs d n by unfold pinV;rw [if_neg (by rw [E3.out];decide)]),by repeat (first|exact G.out|exact G.out.drewN _|refine Grows.drew ?_|refine Grows.drewN ?_ _|refine Grows.setCell ?_ (by simp<;>omega) _|refine Grows.alloc ?_ _)⟩
 ·have DP:=hideIt (AB.out hB)
  have E3:=hideIt hB
  clear hB
  go_wp2
  try (go_quiet (fail);go_wp2)
  go_ret2
  exact ⟨ret_two (show p.inst=instV cs d n by unfold instV;rw [if_pos E3.out,←EP.out]) (show p.pin=pinV cs d n by unfold pinV;rw [if_pos E3.out,←EP.out]),by repeat (first|exact G.out|exact G.out.drewN _|refine Grows.drew ?_|refine Grows.drewN ?_ _|refine Grows.setCell ?_ (by simp<;>omega) _|refine Grows.alloc ?_ _)⟩

set_option maxHeartbeats 4000000 in
set_option maxRecDepth 10000 in
theorem iNetOf_any {vl:Value} {cs:List CellD} {a b c:Value} {d:DesignD} (n:Int) (w:World) (hl:RCells w vl cs) (hd:RDesign w [a,b,c] d) (hsl:SmCells cs) (hsd:SmDesign d) :
  Calls Tryz.prog 14 #[.agg #[vl],.agg #[a,b,c],.int .i64 n] w fun e w'=>e=.returned (.int .i64 (netV cs d n))∧Grows w w':=by
 have cl:=RList.len hl
 obtain ⟨C,nc,rfl⟩:∃(D:Option Addr) (q:Nat),vl=.slice D cs.length q:=by obtain ⟨D,q,e,-⟩:=RList.form hl;exact ⟨D,q,e⟩
 have il:=RList.len hd.parts.1
 have nl:=RList.len hd.parts.2.1
 have ol:=RList.len hd.parts.2.2
 obtain ⟨I,N,O,ni,nn,no,rfl,rfl,rfl⟩:=des_open hd
 have SA:=hideIt hsl
 have SB:=hideIt hsd
 clear hsl hsd
 have g:Grows w w:=Grows.refl w
 have G:Hid (Grows w ((w.alloc (.cells #[.slice C cs.length nc] 26)).alloc (.cells #[.slice I d.insts.length ni,.slice N d.nets.length nn,.slice O d.ports.length no] 31))):=hideIt (((Grows.refl w).alloc _).alloc _)
 clear g
 have SL:Hid (Blk ((w.alloc (.cells #[.slice C cs.length nc] 26)).alloc (.cells #[.slice I d.insts.length ni,.slice N d.nets.length nn,.slice O d.ports.length no] 31)) (w.heap.size) 26 #[.slice C cs.length nc]):=by
  have:=(Blk.new w 26 #[.slice C cs.length nc]).grows ((Grows.refl (w.alloc (.cells #[.slice C cs.length nc] 26))).alloc (.cells #[.slice I d.insts.length ni,.slice N d.nets.length nn,.slice O d.ports.length no] 31))
  exact hideIt (by simpa using this)
 have SD:Hid (Blk ((w.alloc (.cells #[.slice C cs.length nc] 26)).alloc (.cells #[.slice I d.insts.length ni,.slice N d.nets.length nn,.slice O d.ports.length no] 31)) (w.heap.size+1) 31 #[.slice I d.insts.length ni,.slice N d.nets.length nn,.slice O d.ports.length no]):=by
  have:=(Blk.new (w.alloc (.cells #[.slice C cs.length nc] 26)) 31 #[.slice I d.insts.length ni,.slice N d.nets.length nn,.slice O d.ports.length no]).grows (Grows.refl ((w.alloc (.cells #[.slice C cs.length nc] 26)).alloc (.cells #[.slice I d.insts.length ni,.slice N d.nets.length nn,.slice O d.ports.length no] 31)))
  exact hideIt (by simpa using this)
 replace hl:=hideIt (hl.keep G.out.keeps)
 replace hd:=hideIt (hd.keep G.out.keeps)
 go_enter Tryz.func14,Tryz.ntmps14
 go_wp2_with fail
 refine (iAt_any n _ hl.out hd.out SA.out SB.out).mono ?_
 rintro e u1 ⟨rfl,g⟩
 replace G:=hideIt (G.out.trans g)
 replace hl:=hideIt (hl.out.keep g.keeps)
 replace hd:=hideIt (hd.out.keep g.keeps)
 replace SL:=hideIt (SL.out.grows g)
 replace SD:=hideIt (SD.out.grows g)
 clear g
 have kSL_0:u1.cell? ⟨w.heap.size,0,none⟩=some (.slice C cs.length nc):=SL.out.cell 0
 have fSL:=SL.out.frozen
 have lSL:w.heap.size<u1.heap.size:=SL.out.lt
 have kSD_0:u1.cell? ⟨w.heap.size+1,0,none⟩=some (.slice I d.insts.length ni):=SD.out.cell 0
 have kSD_1:u1.cell? ⟨w.heap.size+1,1,none⟩=some (.slice N d.nets.length nn):=SD.out.cell 1
 have kSD_2:u1.cell? ⟨w.heap.size+1,2,none⟩=some (.slice O d.ports.length no):=SD.out.cell 2
 have fSD:=SD.out.frozen
 have lSD:w.heap.size+1<u1.heap.size:=SD.out.lt
 have AB:=hideIt (fun h=>atB_true (l:=cs) (d:=d) (n:=n) h)
 obtain ⟨p,ep⟩:∃p,p=atV cs d n:=⟨_,rfl⟩
 rw [←ep]
 have EP:=hideIt ep
 clear ep
 unfold plV
 cases hB:atB cs d n
 ·have E3:=hideIt hB
  clear hB
  go_wp2
  go_ret
  exact ⟨ret_int (show (-1:Int)=netV cs d n by unfold netV;rw [if_neg (by rw [E3.out];decide)]),by repeat (first|exact G.out|exact G.out.drewN _|refine Grows.drew ?_|refine Grows.drewN ?_ _|refine Grows.setCell ?_ (by simp<;>omega) _|refine Grows.alloc ?_ _)⟩
 ·have DP:=hideIt (AB.out hB)
  have E3:=hideIt hB
  clear hB
  go_wp2
  go_ret
  exact ⟨ret_int (show p.net=netV cs d n by unfold netV;rw [if_pos E3.out,←EP.out]),by repeat (first|exact G.out|exact G.out.drewN _|refine Grows.drew ?_|refine Grows.drewN ?_ _|refine Grows.setCell ?_ (by simp<;>omega) _|refine Grows.alloc ?_ _)⟩

set_option maxHeartbeats 8000000 in
set_option maxRecDepth 10000 in
theorem iCap_any {a b c:Value} {d:DesignD} {vl:Value} {cs:List CellD} (p:PlaceD) (w:World) (hl:RCells w vl cs) (hd:RDesign w [a,b,c] d) (hok:PlaceOk cs d p) :
  Calls Tryz.prog 55 #[.agg #[a,b,c],.agg #[vl],plV p] w fun e w'=>e=.returned (.int .i64 (capOf cs d p))∧Grows w w':=by
 have cl:=RList.len hl
 obtain ⟨C,nc,rfl⟩:∃(D:Option Addr) (q:Nat),vl=.slice D cs.length q:=by obtain ⟨D,q,e,-⟩:=RList.form hl;exact ⟨D,q,e⟩
 have il:=RList.len hd.parts.1
 have nl:=RList.len hd.parts.2.1
 have ol:=RList.len hd.parts.2.2
 obtain ⟨I,N,O,ni,nn,no,rfl,rfl,rfl⟩:=des_open hd
 unfold plV
 rcases hok.at_ with ⟨i,k,x,c,q,hi,hk,hx,hc0,hc,hq⟩|⟨hi,k,o,hk,ho⟩
 ·have PA:=hideIt (capOf_pin (by omega) (pinAt_of hi hk hx hc hq))
  obtain ⟨n,e⟩:∃n:Nat,x.cell=(n:Int):=⟨x.cell.toNat,by omega⟩
  rw [hi,hk]
  have g:Grows w w:=Grows.refl w
  have G:Hid (Grows w (((w.alloc (.cells #[.slice I d.insts.length ni,.slice N d.nets.length nn,.slice O d.ports.length no] 31)).alloc (.cells #[.slice C cs.length nc] 26)).alloc (.cells #[.int .i64 (i:Int),.int .i64 (k:Int),.int .i64 p.net,.bool p.drives] 67))):=hideIt ((((Grows.refl w).alloc _).alloc _).alloc _)
  clear g
  have SD:Hid (Blk (((w.alloc (.cells #[.slice I d.insts.length ni,.slice N d.nets.length nn,.slice O d.ports.length no] 31)).alloc (.cells #[.slice C cs.length nc] 26)).alloc (.cells #[.int .i64 (i:Int),.int .i64 (k:Int),.int .i64 p.net,.bool p.drives] 67)) (w.heap.size) 31 #[.slice I d.insts.length ni,.slice N d.nets.length nn,.slice O d.ports.length no]):=by
   have:=(Blk.new w 31 #[.slice I d.insts.length ni,.slice N d.nets.length nn,.slice O d.ports.length no]).grows (((Grows.refl (w.alloc (.cells #[.slice I d.insts.length ni,.slice N d.nets.length nn,.slice O d.ports.length no] 31))).alloc (.cells #[.slice C cs.length nc] 26)).alloc (.cells #[.int .i64 (i:Int),.int .i64 (k:Int),.int .i64 p.net,.bool p.drives] 67))
   exact hideIt (by simpa using this)
  have SL:Hid (Blk (((w.alloc (.cells #[.slice I d.insts.length ni,.slice N d.nets.length nn,.slice O d.ports.length no] 31)).alloc (.cells #[.slice C cs.length nc] 26)).alloc (.cells #[.int .i64 (i:Int),.int .i64 (k:Int),.int .i64 p.net,.bool p.drives] 67)) (w.heap.size+1) 26 #[.slice C cs.length nc]):=by
   have:=(Blk.new (w.alloc (.cells #[.slice I d.insts.length ni,.slice N d.nets.length nn,.slice O d.ports.length no] 31)) 26 #[.slice C cs.length nc]).grows ((Grows.refl ((w.alloc (.cells #[.slice I d.insts.length ni,.slice N d.nets.length nn,.slice O d.ports.length no] 31)).alloc (.cells #[.slice C cs.length nc] 26))).alloc (.cells #[.int .i64 (i:Int),.int .i64 (k:Int),.int .i64 p.net,.bool p.drives] 67))
   exact hideIt (by simpa using this)
  have PB:Hid (Blk (((w.alloc (.cells #[.slice I d.insts.length ni,.slice N d.nets.length nn,.slice O d.ports.length no] 31)).alloc (.cells #[.slice C cs.length nc] 26)).alloc (.cells #[.int .i64 (i:Int),.int .i64 (k:Int),.int .i64 p.net,.bool p.drives] 67)) (w.heap.size+1+1) 67 #[.int .i64 (i:Int),.int .i64 (k:Int),.int .i64 p.net,.bool p.drives]):=by
   have:=(Blk.new ((w.alloc (.cells #[.slice I d.insts.length ni,.slice N d.nets.length nn,.slice O d.ports.length no] 31)).alloc (.cells #[.slice C cs.length nc] 26)) 67 #[.int .i64 (i:Int),.int .i64 (k:Int),.int .i64 p.net,.bool p.drives]).grows (Grows.refl (((w.alloc (.cells #[.slice I d.insts.length ni,.slice N d.nets.length nn,.slice O d.ports.length no] 31)).alloc (.cells #[.slice C cs.length nc] 26)).alloc (.cells #[.int .i64 (i:Int),.int .i64 (k:Int),.int .i64 p.net,.bool p.drives] 67)))
   exact hideIt (by simpa using this)
  replace hl:=hideIt (hl.keep G.out.keeps)
  replace hd:=hideIt (hd.keep G.out.keeps)
  have hx1:i<d.insts.length:=(List.getElem?_eq_some_iff.1 hx).1
  have hc1:n<cs.length:=by have:=(List.getElem?_eq_some_iff.1 hc).1;omega
  have hq1:k<c.pins.length:=(List.getElem?_eq_some_iff.1 hq).1
  rw [e,Int.toNat_natCast] at hc
  obtain ⟨bi,oi,XN,xn,rfl,-,p1,-,hxn,-⟩:=inst_at hd.out.parts.1 hx
  obtain ⟨bc,oc,PP,pn,rfl,cp,rq⟩:=pins_at hl.out hc
  obtain ⟨bp,op,rfl,-,-,q2,-⟩:=pin_at rq hq
  have ql:=RList.len rq
  rw [e] at p1
  have l0:=hx1
  have l1:(i:Int)<(d.insts.length:Int):=by omega
  have l2:(n:Int)<(cs.length:Int):=by omega
  have l3:(k:Int)<(c.pins.length:Int):=by omega
  have l4:(0:Int)≤(i:Int):=by omega
  have l5:(0:Int)≤(n:Int):=by omega
  have l6:(0:Int)≤(k:Int):=by omega
  have tn:decide ((i:Int)<0)=false:=by simp
  clear hi hk hx hc hq hxn rq e hc0
  have kSD_0:=SD.out.cell 0
  have kSD_1:=SD.out.cell 1
  have kSD_2:=SD.out.cell 2
  have lSD:=SD.out.lt
  have kSL_0:=SL.out.cell 0
  have lSL:=SL.out.lt
  have kPB_0:=PB.out.cell 0
  have kPB_1:=PB.out.cell 1
  have kPB_2:=PB.out.cell 2
  have kPB_3:=PB.out.cell 3
  have lPB:=PB.out.lt
  go_enter Tryz.func55,Tryz.ntmps55
  go_wp2
  try (go_quiet (fail);go_wp2)
  go_ret
  exact ⟨ret_int PA.out.symm,by repeat (first|exact G.out|exact G.out.drewN _|refine Grows.drew ?_)⟩
 ·have PA:=hideIt (capOf_port (l:=cs) (d:=d) (p:=p) (by omega))
  rw [hi]
  clear hi hk ho hok
  have g:Grows w w:=Grows.refl w
  have G:Hid (Grows w (((w.alloc (.cells #[.slice I d.insts.length ni,.slice N d.nets.length nn,.slice O d.ports.length no] 31)).alloc (.cells #[.slice C cs.length nc] 26)).alloc (.cells #[.int .i64 (-1),.int .i64 p.pin,.int .i64 p.net,.bool p.drives] 67))):=hideIt ((((Grows.refl w).alloc _).alloc _).alloc _)
  clear g
  have SD:Hid (Blk (((w.alloc (.cells #[.slice I d.insts.length ni,.slice N d.nets.length nn,.slice O d.ports.length no] 31)).alloc (.cells #[.slice C cs.length nc] 26)).alloc (.cells #[.int .i64 (-1),.int .i64 p.pin,.int .i64 p.net,.bool p.drives] 67)) (w.heap.size) 31 #[.slice I d.insts.length ni,.slice N d.nets.length nn,.slice O d.ports.length no]):=by
   have:=(Blk.new w 31 #[.slice I d.insts.length ni,.slice N d.nets.length nn,.slice O d.ports.length no]).grows (((Grows.refl (w.alloc (.cells #[.slice I d.insts.length ni,.slice N d.nets.length nn,.slice O d.ports.length no] 31))).alloc (.cells #[.slice C cs.length nc] 26)).alloc (.cells #[.int .i64 (-1),.int .i64 p.pin,.int .i64 p.net,.bool p.drives] 67))
   exact hideIt (by simpa using this)
  have SL:Hid (Blk (((w.alloc (.cells #[.slice I d.insts.length ni,.slice N d.nets.length nn,.slice O d.ports.length no] 31)).alloc (.cells #[.slice C cs.length nc] 26)).alloc (.cells #[.int .i64 (-1),.int .i64 p.pin,.int .i64 p.net,.bool p.drives] 67)) (w.heap.size+1) 26 #[.slice C cs.length nc]):=by
   have:=(Blk.new (w.alloc (.cells #[.slice I d.insts.length ni,.slice N d.nets.length nn,.slice O d.ports.length no] 31)) 26 #[.slice C cs.length nc]).grows ((Grows.refl ((w.alloc (.cells #[.slice I d.insts.length ni,.slice N d.nets.length nn,.slice O d.ports.length no] 31)).alloc (.cells #[.slice C cs.length nc] 26))).alloc (.cells #[.int .i64 (-1),.int .i64 p.pin,.int .i64 p.net,.bool p.drives] 67))
   exact hideIt (by simpa using this)
  have PB:Hid (Blk (((w.alloc (.cells #[.slice I d.insts.length ni,.slice N d.nets.length nn,.slice O d.ports.length no] 31)).alloc (.cells #[.slice C cs.length nc] 26)).alloc (.cells #[.int .i64 (-1),.int .i64 p.pin,.int .i64 p.net,.bool p.drives] 67)) (w.heap.size+1+1) 67 #[.int .i64 (-1),.int .i64 p.pin,.int .i64 p.net,.bool p.drives]):=by
   have:=(Blk.new ((w.alloc (.cells #[.slice I d.insts.length ni,.slice N d.nets.length nn,.slice O d.ports.length no] 31)).alloc (.cells #[.slice C cs.length nc] 26)) 67 #[.int .i64 (-1),.int .i64 p.pin,.int .i64 p.net,.bool p.drives]).grows (Grows.refl (((w.alloc (.cells #[.slice I d.insts.length ni,.slice N d.nets.length nn,.slice O d.ports.length no] 31)).alloc (.cells #[.slice C cs.length nc] 26)).alloc (.cells #[.int .i64 (-1),.int .i64 p.pin,.int .i64 p.net,.bool p.drives] 67)))
   exact hideIt (by simpa using this)
  replace hl:=hideIt (hl.keep G.out.keeps)
  replace hd:=hideIt (hd.keep G.out.keeps)
  go_enter Tryz.func55,Tryz.ntmps55
  go_wp2
  go_ret
  exact ⟨ret_int PA.out.symm,G.out⟩

set_option maxHeartbeats 4000000 in
set_option maxRecDepth 10000 in
theorem iPlaceCap_any {vl:Value} {cs:List CellD} {a b c:Value} {d:DesignD} (n:Int) (w:World) (hl:RCells w vl cs) (hd:RDesign w [a,b,c] d) (hsl:SmCells cs) (hsd:SmDesign d) :
  Calls Tryz.prog 21 #[.agg #[vl],.agg #[a,b,c],.int .i64 n] w fun e w'=>e=.returned (.int .i64 (capV cs d n))∧Grows w w':=by
 have cl:=RList.len hl
 obtain ⟨C,nc,rfl⟩:∃(D:Option Addr) (q:Nat),vl=.slice D cs.length q:=by obtain ⟨D,q,e,-⟩:=RList.form hl;exact ⟨D,q,e⟩
 have il:=RList.len hd.parts.1
 have nl:=RList.len hd.parts.2.1
 have ol:=RList.len hd.parts.2.2
 obtain ⟨I,N,O,ni,nn,no,rfl,rfl,rfl⟩:=des_open hd
 have SA:=hideIt hsl
 have SB:=hideIt hsd
 clear hsl hsd
 have g:Grows w w:=Grows.refl w
 have G:Hid (Grows w ((w.alloc (.cells #[.slice C cs.length nc] 26)).alloc (.cells #[.slice I d.insts.length ni,.slice N d.nets.length nn,.slice O d.ports.length no] 31))):=hideIt (((Grows.refl w).alloc _).alloc _)
 clear g
 have SL:Hid (Blk ((w.alloc (.cells #[.slice C cs.length nc] 26)).alloc (.cells #[.slice I d.insts.length ni,.slice N d.nets.length nn,.slice O d.ports.length no] 31)) (w.heap.size) 26 #[.slice C cs.length nc]):=by
  have:=(Blk.new w 26 #[.slice C cs.length nc]).grows ((Grows.refl (w.alloc (.cells #[.slice C cs.length nc] 26))).alloc (.cells #[.slice I d.insts.length ni,.slice N d.nets.length nn,.slice O d.ports.length no] 31))
  exact hideIt (by simpa using this)
 have SD:Hid (Blk ((w.alloc (.cells #[.slice C cs.length nc] 26)).alloc (.cells #[.slice I d.insts.length ni,.slice N d.nets.length nn,.slice O d.ports.length no] 31)) (w.heap.size+1) 31 #[.slice I d.insts.length ni,.slice N d.nets.length nn,.slice O d.ports.length no]):=by
  have:=(Blk.new (w.alloc (.cells #[.slice C cs.length nc] 26)) 31 #[.slice I d.insts.length ni,.slice N d.nets.length nn,.slice O d.ports.length no]).grows (Grows.refl ((w.alloc (.cells #[.slice C cs.length nc] 26)).alloc (.cells #[.slice I d.insts.length ni,.slice N d.nets.length nn,.slice O d.ports.length no] 31)))
  exact hideIt (by simpa using this)
 replace hl:=hideIt (hl.keep G.out.keeps)
 replace hd:=hideIt (hd.keep G.out.keeps)
 go_enter Tryz.func21,Tryz.ntmps21
 go_wp2_with fail
 refine (iAt_any n _ hl.out hd.out SA.out SB.out).mono ?_
 rintro e u1 ⟨rfl,g⟩
 replace G:=hideIt (G.out.trans g)
 replace hl:=hideIt (hl.out.keep g.keeps)
 replace hd:=hideIt (hd.out.keep g.keeps)
 replace SL:=hideIt (SL.out.grows g)
 replace SD:=hideIt (SD.out.grows g)
 clear g
 have kSL_0:u1.cell? ⟨w.heap.size,0,none⟩=some (.slice C cs.length nc):=SL.out.cell 0
 have fSL:=SL.out.frozen
 have lSL:w.heap.size<u1.heap.size:=SL.out.lt
 have kSD_0:u1.cell? ⟨w.heap.size+1,0,none⟩=some (.slice I d.insts.length ni):=SD.out.cell 0
 have kSD_1:u1.cell? ⟨w.heap.size+1,1,none⟩=some (.slice N d.nets.length nn):=SD.out.cell 1
 have kSD_2:u1.cell? ⟨w.heap.size+1,2,none⟩=some (.slice O d.ports.length no):=SD.out.cell 2
 have fSD:=SD.out.frozen
 have lSD:w.heap.size+1<u1.heap.size:=SD.out.lt
 have AB:=hideIt (fun h=>atB_true (l:=cs) (d:=d) (n:=n) h)
 obtain ⟨p,ep⟩:∃p,p=atV cs d n:=⟨_,rfl⟩
 rw [←ep]
 have EP:=hideIt ep
 clear ep
 unfold plV
 cases hB:atB cs d n
 ·have E3:=hideIt hB
  clear hB
  go_wp2
  go_ret
  exact ⟨ret_int (show (-1:Int)=capV cs d n by unfold capV;rw [if_neg (by rw [E3.out];decide)]),by repeat (first|exact G.out|exact G.out.drewN _|refine Grows.drew ?_|refine Grows.drewN ?_ _|refine Grows.setCell ?_ (by simp<;>omega) _|refine Grows.alloc ?_ _)⟩
 ·have DP:=hideIt (AB.out hB)
  have E3:=hideIt hB
  clear hB
  have gl:Grows u1 (u1.alloc (.cells #[.int .i64 p.inst,.int .i64 p.pin,.int .i64 p.net,.bool p.drives] 67)):=(Grows.refl _).alloc _
  replace G:=hideIt (G.out.trans gl)
  replace hl:=hideIt (hl.out.keep gl.keeps)
  replace hd:=hideIt (hd.out.keep gl.keeps)
  replace SL:=hideIt (SL.out.grows gl)
  replace SD:=hideIt (SD.out.grows gl)
  have VP:=hideIt (Blk.new u1 67 #[.int .i64 p.inst,.int .i64 p.pin,.int .i64 p.net,.bool p.drives])
  clear gl
  go_wp2_with fail
  clear kSL_0 fSL lSL kSD_0 kSD_1 kSD_2 fSD lSD
  refine (iCap_any p _ hl.out hd.out (by rw [EP.out];exact DP.out.2.2.2.2)).mono ?_
  rintro e u2 ⟨rfl,g⟩
  replace G:=hideIt (G.out.trans g)
  replace hl:=hideIt (hl.out.keep g.keeps)
  replace hd:=hideIt (hd.out.keep g.keeps)
  replace SL:=hideIt (SL.out.grows g)
  replace SD:=hideIt (SD.out.grows g)
  replace VP:=hideIt (VP.out.grows g)
  clear g
  have kSL_0:u2.cell? ⟨w.heap.size,0,none⟩=some (.slice C cs.length nc):=SL.out.cell 0
  have fSL:=SL.out.frozen
  have lSL:w.heap.size<u2.heap.size:=SL.out.lt
  have kSD_0:u2.cell? ⟨w.heap.size+1,0,none⟩=some (.slice I d.insts.length ni):=SD.out.cell 0
  have kSD_1:u2.cell? ⟨w.heap.size+1,1,none⟩=some (.slice N d.nets.length nn):=SD.out.cell 1
  have kSD_2:u2.cell? ⟨w.heap.size+1,2,none⟩=some (.slice O d.ports.length no):=SD.out.cell 2
  have fSD:=SD.out.frozen
  have lSD:w.heap.size+1<u2.heap.size:=SD.out.lt
  have kVP_0:u2.cell? ⟨u1.heap.size,0,none⟩=some (.int .i64 p.inst):=VP.out.cell 0
  have kVP_1:u2.cell? ⟨u1.heap.size,1,none⟩=some (.int .i64 p.pin):=VP.out.cell 1
  have kVP_2:u2.cell? ⟨u1.heap.size,2,none⟩=some (.int .i64 p.net):=VP.out.cell 2
  have kVP_3:u2.cell? ⟨u1.heap.size,3,none⟩=some (.bool p.drives):=VP.out.cell 3
  have fVP:=VP.out.frozen
  have lVP:u1.heap.size<u2.heap.size:=VP.out.lt
  go_wp2
  go_ret
  exact ⟨ret_int (show capOf cs d p=capV cs d n by unfold capV;rw [if_pos E3.out,←EP.out]),G.out⟩

end Go.Proofs.YtlnpefiipdkafaaGreatDoor
/-
  The program's names of places.
-/
namespace Go.Proofs.YtlnpefiipdkafaaGreatDoor
open Go.RowKit

set_option maxHeartbeats 8000000 in
set_option maxRecDepth 10000 in
theorem iName_any {a b c:Value} {d:DesignD} {vl:Value} {cs:List CellD} (p:PlaceD) (w:World) (hl:RCells w vl cs) (hd:RDesign w [a,b,c] d) (hok:PlaceOk cs d p) (hp:DesP cs d) :
  Calls Tryz.prog 53 #[.agg #[a,b,c],.agg #[vl],plV p] w fun e w'=>e=.returned (.string (nameOf cs d p))∧Grows w w':=by
 have cl:=RList.len hl
 obtain ⟨C,nc,rfl⟩:∃(D:Option Addr) (q:Nat),vl=.slice D cs.length q:=by obtain ⟨D,q,e,-⟩:=RList.form hl;exact ⟨D,q,e⟩
 have il:=RList.len hd.parts.1
 have nl:=RList.len hd.parts.2.1
 have ol:=RList.len hd.parts.2.2
 obtain ⟨I,N,O,ni,nn,no,rfl,rfl,rfl⟩:=des_open hd
 unfold plV
 rcases hok.at_ with ⟨i,k,x,c,q,hi,hk,hx,hc0,hc,hq⟩|⟨hi,k,o,hk,ho⟩
 ·have PA:=hideIt (nameOf_pin (by omega) (pinAt_of hi hk hx hc hq))
  obtain ⟨n,e⟩:∃n:Nat,x.cell=(n:Int):=⟨x.cell.toNat,by omega⟩
  rw [hi,hk]
  have z1:=(nameB_size (inst_name hp hx)).2
  have z2:=(nameB_size (pin_name hp hc hq)).2
  have z3:(x.name++(⟨#[47]⟩:ByteArray)).size≤9:=by rw [ByteArray.size_append];have e:(⟨#[47]⟩:ByteArray).size=1:=rfl;omega
  have g:Grows w w:=Grows.refl w
  have G:Hid (Grows w (((w.alloc (.cells #[.slice I d.insts.length ni,.slice N d.nets.length nn,.slice O d.ports.length no] 31)).alloc (.cells #[.slice C cs.length nc] 26)).alloc (.cells #[.int .i64 (i:Int),.int .i64 (k:Int),.int .i64 p.net,.bool p.drives] 67))):=hideIt ((((Grows.refl w).alloc _).alloc _).alloc _)
  clear g
  have SD:Hid (Blk (((w.alloc (.cells #[.slice I d.insts.length ni,.slice N d.nets.length nn,.slice O d.ports.length no] 31)).alloc (.cells #[.slice C cs.length nc] 26)).alloc (.cells #[.int .i64 (i:Int),.int .i64 (k:Int),.int .i64 p.net,.bool p.drives] 67)) (w.heap.size) 31 #[.slice I d.insts.length ni,.slice N d.nets.length nn,.slice O d.ports.length no]):=by
   have:=(Blk.new w 31 #[.slice I d.insts.length ni,.slice N d.nets.length nn,.slice O d.ports.length no]).grows (((Grows.refl (w.alloc (.cells #[.slice I d.insts.length ni,.slice N d.nets.length nn,.slice O d.ports.length no] 31))).alloc (.cells #[.slice C cs.length nc] 26)).alloc (.cells #[.int .i64 (i:Int),.int .i64 (k:Int),.int .i64 p.net,.bool p.drives] 67))
   exact hideIt (by simpa using this)
  have SL:Hid (Blk (((w.alloc (.cells #[.slice I d.insts.length ni,.slice N d.nets.length nn,.slice O d.ports.length no] 31)).alloc (.cells #[.slice C cs.length nc] 26)).alloc (.cells #[.int .i64 (i:Int),.int .i64 (k:Int),.int .i64 p.net,.bool p.drives] 67)) (w.heap.size+1) 26 #[.slice C cs.length nc]):=by
   have:=(Blk.new (w.alloc (.cells #[.slice I d.insts.length ni,.slice N d.nets.length nn,.slice O d.ports.length no] 31)) 26 #[.slice C cs.length nc]).grows ((Grows.refl ((w.alloc (.cells #[.slice I d.insts.length ni,.slice N d.nets.length nn,.slice O d.ports.length no] 31)).alloc (.cells #[.slice C cs.length nc] 26))).alloc (.cells #[.int .i64 (i:Int),.int .i64 (k:Int),.int .i64 p.net,.bool p.drives] 67))
   exact hideIt (by simpa using this)
  have PB:Hid (Blk (((w.alloc (.cells #[.slice I d.insts.length ni,.slice N d.nets.length nn,.slice O d.ports.length no] 31)).alloc (.cells #[.slice C cs.length nc] 26)).alloc (.cells #[.int .i64 (i:Int),.int .i64 (k:Int),.int .i64 p.net,.bool p.drives] 67)) (w.heap.size+1+1) 67 #[.int .i64 (i:Int),.int .i64 (k:Int),.int .i64 p.net,.bool p.drives]):=by
   have:=(Blk.new ((w.alloc (.cells #[.slice I d.insts.length ni,.slice N d.nets.length nn,.slice O d.ports.length no] 31)).alloc (.cells #[.slice C cs.length nc] 26)) 67 #[.int .i64 (i:Int),.int .i64 (k:Int),.int .i64 p.net,.bool p.drives]).grows (Grows.refl (((w.alloc (.cells #[.slice I d.insts.length ni,.slice N d.nets.length nn,.slice O d.ports.length no] 31)).alloc (.cells #[.slice C cs.length nc] 26)).alloc (.cells #[.int .i64 (i:Int),.int .i64 (k:Int),.int .i64 p.net,.bool p.drives] 67)))
   exact hideIt (by simpa using this)
  replace hl:=hideIt (hl.keep G.out.keeps)
  replace hd:=hideIt (hd.keep G.out.keeps)
  have hx1:i<d.insts.length:=(List.getElem?_eq_some_iff.1 hx).1
  have hc1:n<cs.length:=by have:=(List.getElem?_eq_some_iff.1 hc).1;omega
  have hq1:k<c.pins.length:=(List.getElem?_eq_some_iff.1 hq).1
  rw [e,Int.toNat_natCast] at hc
  obtain ⟨bi,oi,XN,xn,rfl,p0,p1,p2,hxn,-⟩:=inst_at hd.out.parts.1 hx
  obtain ⟨bc,oc,PP,pn,rfl,cp,rq⟩:=pins_at hl.out hc
  obtain ⟨bp,op,rfl,q0,-,-,-⟩:=pin_at rq hq
  have xl:=RList.len hxn
  have ql:=RList.len rq
  rw [e] at p1
  have l1:(i:Int)<(d.insts.length:Int):=by omega
  have l2:(n:Int)<(cs.length:Int):=by omega
  have l3:(k:Int)<(c.pins.length:Int):=by omega
  have l4:(0:Int)≤(i:Int):=by omega
  have l5:(0:Int)≤(n:Int):=by omega
  have l6:(0:Int)≤(k:Int):=by omega
  have tn:decide ((i:Int)<0)=false:=by simp
  clear hi hk hx hc hq hxn rq e hc0 hok hp
  have kSD_0:=SD.out.cell 0
  have kSD_1:=SD.out.cell 1
  have kSD_2:=SD.out.cell 2
  have lSD:=SD.out.lt
  have kSL_0:=SL.out.cell 0
  have lSL:=SL.out.lt
  have kPB_0:=PB.out.cell 0
  have kPB_1:=PB.out.cell 1
  have kPB_2:=PB.out.cell 2
  have kPB_3:=PB.out.cell 3
  have lPB:=PB.out.lt
  have G4:=hideIt (G.out.alloc (.cells #[.string x.name,.int .i64 (n:Int),.slice XN x.nets.length xn] 72))
  have XB:Hid (Blk ((((w.alloc (.cells #[.slice (some ⟨bi,oi,none⟩) d.insts.length ni,.slice N d.nets.length nn,.slice O d.ports.length no] 31)).alloc (.cells #[.slice (some ⟨bc,oc,none⟩) cs.length nc] 26)).alloc (.cells #[.int .i64 (i:Int),.int .i64 (k:Int),.int .i64 p.net,.bool p.drives] 67)).alloc (.cells #[.string x.name,.int .i64 (n:Int),.slice XN x.nets.length xn] 72)) (w.heap.size+1+1+1) 72 #[.string x.name,.int .i64 (n:Int),.slice XN x.nets.length xn]):=by
   have:=Blk.new (((w.alloc (.cells #[.slice (some ⟨bi,oi,none⟩) d.insts.length ni,.slice N d.nets.length nn,.slice O d.ports.length no] 31)).alloc (.cells #[.slice (some ⟨bc,oc,none⟩) cs.length nc] 26)).alloc (.cells #[.int .i64 (i:Int),.int .i64 (k:Int),.int .i64 p.net,.bool p.drives] 67)) 72 #[.string x.name,.int .i64 (n:Int),.slice XN x.nets.length xn]
   exact hideIt (by simpa using this)
  have KA:Keeps _ ((((w.alloc (.cells #[.slice (some ⟨bi,oi,none⟩) d.insts.length ni,.slice N d.nets.length nn,.slice O d.ports.length no] 31)).alloc (.cells #[.slice (some ⟨bc,oc,none⟩) cs.length nc] 26)).alloc (.cells #[.int .i64 (i:Int),.int .i64 (k:Int),.int .i64 p.net,.bool p.drives] 67)).alloc (.cells #[.string x.name,.int .i64 (n:Int),.slice XN x.nets.length xn] 72)):=((Grows.refl _).alloc _).keeps
  have K0:∀w',Grows ((((w.alloc (.cells #[.slice (some ⟨bi,oi,none⟩) d.insts.length ni,.slice N d.nets.length nn,.slice O d.ports.length no] 31)).alloc (.cells #[.slice (some ⟨bc,oc,none⟩) cs.length nc] 26)).alloc (.cells #[.int .i64 (i:Int),.int .i64 (k:Int),.int .i64 p.net,.bool p.drives] 67)).alloc (.cells #[.string x.name,.int .i64 (n:Int),.slice XN x.nets.length xn] 72)) w'→w'.cell? ⟨w.heap.size+1,0,none⟩=some (.slice (some ⟨bc,oc,none⟩) cs.length nc)∧w'.cell? ⟨w.heap.size+1+1,1,none⟩=some (.int .i64 (k:Int))∧w'.cell? ⟨w.heap.size+1+1+1,0,none⟩=some (.string x.name)∧w'.cell? ⟨w.heap.size+1+1+1,1,none⟩=some (.int .i64 (n:Int))∧w'.cell? ⟨bc,oc+n * 7+2,none⟩=some (.slice (some ⟨bp,op,none⟩) c.pins.length pn)∧w'.cell? ⟨bp,op+k * 4,none⟩=some (.string q.name)∧Grows ((((w.alloc (.cells #[.slice (some ⟨bi,oi,none⟩) d.insts.length ni,.slice N d.nets.length nn,.slice O d.ports.length no] 31)).alloc (.cells #[.slice (some ⟨bc,oc,none⟩) cs.length nc] 26)).alloc (.cells #[.int .i64 (i:Int),.int .i64 (k:Int),.int .i64 p.net,.bool p.drives] 67)).alloc (.cells #[.string x.name,.int .i64 (n:Int),.slice XN x.nets.length xn] 72)) w':=fun w' G=>⟨G.keeps _ _ (KA _ _ kSL_0),G.keeps _ _ (KA _ _ kPB_1),G.keeps _ _ (XB.out.cell 0),G.keeps _ _ (XB.out.cell 1),G.keeps _ _ (KA _ _ cp),G.keeps _ _ (KA _ _ q0),G⟩
  have HK:=hideIt K0
  clear K0 KA
  have gg:Grows ((((w.alloc (.cells #[.slice (some ⟨bi,oi,none⟩) d.insts.length ni,.slice N d.nets.length nn,.slice O d.ports.length no] 31)).alloc (.cells #[.slice (some ⟨bc,oc,none⟩) cs.length nc] 26)).alloc (.cells #[.int .i64 (i:Int),.int .i64 (k:Int),.int .i64 p.net,.bool p.drives] 67)).alloc (.cells #[.string x.name,.int .i64 (n:Int),.slice XN x.nets.length xn] 72)) ((((w.alloc (.cells #[.slice (some ⟨bi,oi,none⟩) d.insts.length ni,.slice N d.nets.length nn,.slice O d.ports.length no] 31)).alloc (.cells #[.slice (some ⟨bc,oc,none⟩) cs.length nc] 26)).alloc (.cells #[.int .i64 (i:Int),.int .i64 (k:Int),.int .i64 p.net,.bool p.drives] 67)).alloc (.cells #[.string x.name,.int .i64 (n:Int),.slice XN x.nets.length xn] 72)):=Grows.refl _
  have tz1:¬9223372036854775807<x.name.size+1:=by omega
  have tz2:¬9223372036854775807<(x.name++(⟨#[47]⟩:ByteArray)).size+q.name.size:=by omega
  have tz3:¬9223372036854775807<x.name.size+1+q.name.size:=by omega
  go_enter Tryz.func53,Tryz.ntmps53
  go_wp2
  refine wp_region_held_drew (S:=(fun w'=>w'.cell? ⟨w.heap.size+1,0,none⟩=some (.slice (some ⟨bc,oc,none⟩) cs.length nc)∧w'.cell? ⟨w.heap.size+1+1,1,none⟩=some (.int .i64 (k:Int))∧w'.cell? ⟨w.heap.size+1+1+1,0,none⟩=some (.string x.name)∧w'.cell? ⟨w.heap.size+1+1+1,1,none⟩=some (.int .i64 (n:Int))∧w'.cell? ⟨bc,oc+n * 7+2,none⟩=some (.slice (some ⟨bp,op,none⟩) c.pins.length pn)∧w'.cell? ⟨bp,op+k * 4,none⟩=some (.string q.name)∧Grows ((((w.alloc (.cells #[.slice (some ⟨bi,oi,none⟩) d.insts.length ni,.slice N d.nets.length nn,.slice O d.ports.length no] 31)).alloc (.cells #[.slice (some ⟨bc,oc,none⟩) cs.length nc] 26)).alloc (.cells #[.int .i64 (i:Int),.int .i64 (k:Int),.int .i64 p.net,.bool p.drives] 67)).alloc (.cells #[.string x.name,.int .i64 (n:Int),.slice XN x.nets.length xn] 72)) w')) (by kernel_rfl) ?_ (fun hh0=>?_)
  ·(try dsimp only);exact HK.out _ gk
  refine regTk 0 hh0 ?_
  refine regTk 1 hh0 ?_
  refine regTk 2 hh0 ?_
  refine regTk 3 hh0 ?_
  refine regTk 4 hh0 ?_
  refine regTk 5 hh0 ?_
  refine regTk 6 hh0 ?_
  refine regTk 7 hh0 ?_
  refine regTk 8 hh0 ?_
  refine regTk 9 hh0 ?_
  refine regTk 10 hh0 ?_
  refine regTk 11 hh0 ?_
  refine regTk 12 hh0 ?_
  refine regTk 13 hh0 ?_
  refine regTk 14 hh0 ?_
  refine regTk 15 hh0 ?_
  refine regTk 16 hh0 ?_
  refine wpAnyH_done (by kernel_rfl) ?_ _
  clear hh0 HK
  go_wp2
  go_ret
  exact ⟨ret_str PA.out.symm,by repeat (first|exact G4.out|exact G4.out.drewN _|refine Grows.drew ?_|refine Grows.drewN ?_ _)⟩
 ·have PA:=hideIt (nameOf_port (l:=cs) (d:=d) (p:=p) (by omega) hk ho)
  rw [hi,hk]
  have g:Grows w w:=Grows.refl w
  have G:Hid (Grows w (((w.alloc (.cells #[.slice I d.insts.length ni,.slice N d.nets.length nn,.slice O d.ports.length no] 31)).alloc (.cells #[.slice C cs.length nc] 26)).alloc (.cells #[.int .i64 (-1),.int .i64 (k:Int),.int .i64 p.net,.bool p.drives] 67))):=hideIt ((((Grows.refl w).alloc _).alloc _).alloc _)
  clear g
  have SD:Hid (Blk (((w.alloc (.cells #[.slice I d.insts.length ni,.slice N d.nets.length nn,.slice O d.ports.length no] 31)).alloc (.cells #[.slice C cs.length nc] 26)).alloc (.cells #[.int .i64 (-1),.int .i64 (k:Int),.int .i64 p.net,.bool p.drives] 67)) (w.heap.size) 31 #[.slice I d.insts.length ni,.slice N d.nets.length nn,.slice O d.ports.length no]):=by
   have:=(Blk.new w 31 #[.slice I d.insts.length ni,.slice N d.nets.length nn,.slice O d.ports.length no]).grows (((Grows.refl (w.alloc (.cells #[.slice I d.insts.length ni,.slice N d.nets.length nn,.slice O d.ports.length no] 31))).alloc (.cells #[.slice C cs.length nc] 26)).alloc (.cells #[.int .i64 (-1),.int .i64 (k:Int),.int .i64 p.net,.bool p.drives] 67))
   exact hideIt (by simpa using this)
  have SL:Hid (Blk (((w.alloc (.cells #[.slice I d.insts.length ni,.slice N d.nets.length nn,.slice O d.ports.length no] 31)).alloc (.cells #[.slice C cs.length nc] 26)).alloc (.cells #[.int .i64 (-1),.int .i64 (k:Int),.int .i64 p.net,.bool p.drives] 67)) (w.heap.size+1) 26 #[.slice C cs.length nc]):=by
   have:=(Blk.new (w.alloc (.cells #[.slice I d.insts.length ni,.slice N d.nets.length nn,.slice O d.ports.length no] 31)) 26 #[.slice C cs.length nc]).grows ((Grows.refl ((w.alloc (.cells #[.slice I d.insts.length ni,.slice N d.nets.length nn,.slice O d.ports.length no] 31)).alloc (.cells #[.slice C cs.length nc] 26))).alloc (.cells #[.int .i64 (-1),.int .i64 (k:Int),.int .i64 p.net,.bool p.drives] 67))
   exact hideIt (by simpa using this)
  have PB:Hid (Blk (((w.alloc (.cells #[.slice I d.insts.length ni,.slice N d.nets.length nn,.slice O d.ports.length no] 31)).alloc (.cells #[.slice C cs.length nc] 26)).alloc (.cells #[.int .i64 (-1),.int .i64 (k:Int),.int .i64 p.net,.bool p.drives] 67)) (w.heap.size+1+1) 67 #[.int .i64 (-1),.int .i64 (k:Int),.int .i64 p.net,.bool p.drives]):=by
   have:=(Blk.new ((w.alloc (.cells #[.slice I d.insts.length ni,.slice N d.nets.length nn,.slice O d.ports.length no] 31)).alloc (.cells #[.slice C cs.length nc] 26)) 67 #[.int .i64 (-1),.int .i64 (k:Int),.int .i64 p.net,.bool p.drives]).grows (Grows.refl (((w.alloc (.cells #[.slice I d.insts.length ni,.slice N d.nets.length nn,.slice O d.ports.length no] 31)).alloc (.cells #[.slice C cs.length nc] 26)).alloc (.cells #[.int .i64 (-1),.int .i64 (k:Int),.int .i64 p.net,.bool p.drives] 67)))
   exact hideIt (by simpa using this)
  replace hl:=hideIt (hl.keep G.out.keeps)
  replace hd:=hideIt (hd.keep G.out.keeps)
  have ho1:k<d.ports.length:=(List.getElem?_eq_some_iff.1 ho).1
  obtain ⟨bi,oi,rfl,p0,-,-,-⟩:=port_at hd.out.parts.2.2 ho
  have l1:(k:Int)<(d.ports.length:Int):=by omega
  have l4:(0:Int)≤(k:Int):=by omega
  clear hi hk ho hok hp
  have kSD_0:=SD.out.cell 0
  have kSD_1:=SD.out.cell 1
  have kSD_2:=SD.out.cell 2
  have lSD:=SD.out.lt
  have kSL_0:=SL.out.cell 0
  have lSL:=SL.out.lt
  have kPB_0:=PB.out.cell 0
  have kPB_1:=PB.out.cell 1
  have kPB_2:=PB.out.cell 2
  have kPB_3:=PB.out.cell 3
  have lPB:=PB.out.lt
  go_enter Tryz.func53,Tryz.ntmps53
  go_wp2
  go_ret
  exact ⟨ret_str PA.out.symm,G.out⟩

set_option maxHeartbeats 4000000 in
set_option maxRecDepth 10000 in
theorem iPlaceName_any {vl:Value} {cs:List CellD} {a b c:Value} {d:DesignD} (n:Int) (w:World) (hl:RCells w vl cs) (hd:RDesign w [a,b,c] d) (hsl:SmCells cs) (hsd:SmDesign d) :
  Calls Tryz.prog 18 #[.agg #[vl],.agg #[a,b,c],.int .i64 n] w fun e w'=>e=.returned (.string (nameV cs d n))∧Grows w w':=by
 have cl:=RList.len hl
 obtain ⟨C,nc,rfl⟩:∃(D:Option Addr) (q:Nat),vl=.slice D cs.length q:=by obtain ⟨D,q,e,-⟩:=RList.form hl;exact ⟨D,q,e⟩
 have il:=RList.len hd.parts.1
 have nl:=RList.len hd.parts.2.1
 have ol:=RList.len hd.parts.2.2
 obtain ⟨I,N,O,ni,nn,no,rfl,rfl,rfl⟩:=des_open hd
 have SA:=hideIt hsl
 have SB:=hideIt hsd
 clear hsl hsd
 have g:Grows w w:=Grows.refl w
 have G:Hid (Grows w ((w.alloc (.cells #[.slice C cs.length nc] 26)).alloc (.cells #[.slice I d.insts.length ni,.slice N d.nets.length nn,.slice O d.ports.length no] 31))):=hideIt (((Grows.refl w).alloc _).alloc _)
 clear g
 have SL:Hid (Blk ((w.alloc (.cells #[.slice C cs.length nc] 26)).alloc (.cells #[.slice I d.insts.length ni,.slice N d.nets.length nn,.slice O d.ports.length no] 31)) (w.heap.size) 26 #[.slice C cs.length nc]):=by
  have:=(Blk.new w 26 #[.slice C cs.length nc]).grows ((Grows.refl (w.alloc (.cells #[.slice C cs.length nc] 26))).alloc (.cells #[.slice I d.insts.length ni,.slice N d.nets.length nn,.slice O d.ports.length no] 31))
  exact hideIt (by simpa using this)
 have SD:Hid (Blk ((w.alloc (.cells #[.slice C cs.length nc] 26)).alloc (.cells #[.slice I d.insts.length ni,.slice N d.nets.length nn,.slice O d.ports.length no] 31)) (w.heap.size+1) 31 #[.slice I d.insts.length ni,.slice N d.nets.length nn,.slice O d.ports.length no]):=by
  have:=(Blk.new (w.alloc (.cells #[.slice C cs.length nc] 26)) 31 #[.slice I d.insts.length ni,.slice N d.nets.length nn,.slice O d.ports.length no]).grows (Grows.refl ((w.alloc (.cells #[.slice C cs.length nc] 26)).alloc (.cells #[.slice I d.insts.length ni,.slice N d.nets.length nn,.slice O d.ports.length no] 31)))
  exact hideIt (by simpa using this)
 replace hl:=hideIt (hl.keep G.out.keeps)
 replace hd:=hideIt (hd.keep G.out.keeps)
 go_enter Tryz.func18,Tryz.ntmps18
 go_wp2_with fail
 refine (iAt_any n _ hl.out hd.out SA.out SB.out).mono ?_
 rintro e u1 ⟨rfl,g⟩
 replace G:=hideIt (G.out.trans g)
 replace hl:=hideIt (hl.out.keep g.keeps)
 replace hd:=hideIt (hd.out.keep g.keeps)
 replace SL:=hideIt (SL.out.grows g)
 replace SD:=hideIt (SD.out.grows g)
 clear g
 have kSL_0:u1.cell? ⟨w.heap.size,0,none⟩=some (.slice C cs.length nc):=SL.out.cell 0
 have fSL:=SL.out.frozen
 have lSL:w.heap.size<u1.heap.size:=SL.out.lt
 have kSD_0:u1.cell? ⟨w.heap.size+1,0,none⟩=some (.slice I d.insts.length ni):=SD.out.cell 0
 have kSD_1:u1.cell? ⟨w.heap.size+1,1,none⟩=some (.slice N d.nets.length nn):=SD.out.cell 1
 have kSD_2:u1.cell? ⟨w.heap.size+1,2,none⟩=some (.slice O d.ports.length no):=SD.out.cell 2
 have fSD:=SD.out.frozen
 have lSD:w.heap.size+1<u1.heap.size:=SD.out.lt
 have AB:=hideIt (fun h=>atB_true (l:=cs) (d:=d) (n:=n) h)
 obtain ⟨p,ep⟩:∃p,p=atV cs d n:=⟨_,rfl⟩
 rw [←ep]
 have EP:=hideIt ep
 clear ep
 unfold plV
 cases hB:atB cs d n
 ·have E3:=hideIt hB
  clear hB
  go_wp2
  go_ret
  exact ⟨ret_str (show (⟨#[]⟩:ByteArray)=nameV cs d n by unfold nameV;rw [if_neg (by rw [E3.out];decide)]),by repeat (first|exact G.out|exact G.out.drewN _|refine Grows.drew ?_|refine Grows.drewN ?_ _|refine Grows.setCell ?_ (by simp<;>omega) _|refine Grows.alloc ?_ _)⟩
 ·have DP:=hideIt (AB.out hB)
  have E3:=hideIt hB
  clear hB
  have gl:Grows u1 (u1.alloc (.cells #[.int .i64 p.inst,.int .i64 p.pin,.int .i64 p.net,.bool p.drives] 67)):=(Grows.refl _).alloc _
  replace G:=hideIt (G.out.trans gl)
  replace hl:=hideIt (hl.out.keep gl.keeps)
  replace hd:=hideIt (hd.out.keep gl.keeps)
  replace SL:=hideIt (SL.out.grows gl)
  replace SD:=hideIt (SD.out.grows gl)
  have VP:=hideIt (Blk.new u1 67 #[.int .i64 p.inst,.int .i64 p.pin,.int .i64 p.net,.bool p.drives])
  clear gl
  go_wp2_with fail
  clear kSL_0 fSL lSL kSD_0 kSD_1 kSD_2 fSD lSD
  refine (iName_any p _ hl.out hd.out (by rw [EP.out];exact DP.out.2.2.2.2) DP.out.1).mono ?_
  rintro e u2 ⟨rfl,g⟩
  replace G:=hideIt (G.out.trans g)
  replace hl:=hideIt (hl.out.keep g.keeps)
  replace hd:=hideIt (hd.out.keep g.keeps)
  replace SL:=hideIt (SL.out.grows g)
  replace SD:=hideIt (SD.out.grows g)
  replace VP:=hideIt (VP.out.grows g)
  clear g
  have kSL_0:u2.cell? ⟨w.heap.size,0,none⟩=some (.slice C cs.length nc):=SL.out.cell 0
  have fSL:=SL.out.frozen
  have lSL:w.heap.size<u2.heap.size:=SL.out.lt
  have kSD_0:u2.cell? ⟨w.heap.size+1,0,none⟩=some (.slice I d.insts.length ni):=SD.out.cell 0
  have kSD_1:u2.cell? ⟨w.heap.size+1,1,none⟩=some (.slice N d.nets.length nn):=SD.out.cell 1
  have kSD_2:u2.cell? ⟨w.heap.size+1,2,none⟩=some (.slice O d.ports.length no):=SD.out.cell 2
  have fSD:=SD.out.frozen
  have lSD:w.heap.size+1<u2.heap.size:=SD.out.lt
  have kVP_0:u2.cell? ⟨u1.heap.size,0,none⟩=some (.int .i64 p.inst):=VP.out.cell 0
  have kVP_1:u2.cell? ⟨u1.heap.size,1,none⟩=some (.int .i64 p.pin):=VP.out.cell 1
  have kVP_2:u2.cell? ⟨u1.heap.size,2,none⟩=some (.int .i64 p.net):=VP.out.cell 2
  have kVP_3:u2.cell? ⟨u1.heap.size,3,none⟩=some (.bool p.drives):=VP.out.cell 3
  have fVP:=VP.out.frozen
  have lVP:u1.heap.size<u2.heap.size:=VP.out.lt
  go_wp2
  go_ret
  exact ⟨ret_str (show nameOf cs d p=nameV cs d n by unfold nameV;rw [if_pos E3.out,←EP.out]),G.out⟩

set_option maxHeartbeats 4000000 in
set_option maxRecDepth 10000 in
theorem placeNamed1_any {I N O C:Option Addr} {ni nn no nc:Nat} {cs:List CellD} {d:DesignD} (s:ByteArray) (p:PlaceD) (c0 c1 c2 c3:Value) (g0 g1 g2:Nat) (W:World) (hr:RPlace W [c0,c1,c2,c3] p)
  (hl:RCells W (.slice C cs.length nc) cs) (hd:RDesign W [.slice I d.insts.length ni,.slice N d.nets.length nn,.slice O d.ports.length no] d) (hok:PlaceOk cs d p) (hp:DesP cs d)
  (b0:W.cell? ⟨g0,0,none⟩=some (.slice I d.insts.length ni)) (b1:W.cell? ⟨g0,1,none⟩=some (.slice N d.nets.length nn)) (b2:W.cell? ⟨g0,2,none⟩=some (.slice O d.ports.length no)) (b3:W.cell? ⟨g1,0,none⟩=some (.slice C cs.length nc)) (b4:W.cell? ⟨g2,0,none⟩=some (.string s)) :
  Calls Tryz.prog 91 #[.agg #[c0,c1,c2,c3],.pointer (some ⟨g0,0,none⟩),.pointer (some ⟨g1,0,none⟩),.pointer (some ⟨g2,0,none⟩)] W fun e W'=>e=.returned (.bool (decide (nameOf cs d p=s)))∧Grows W W':=by
 unfold RPlace at hr
 injection hr with e0 hr
 injection hr with e1 hr
 injection hr with e2 hr
 injection hr with e3 hr
 subst e0 e1 e2 e3
 clear hr
 have lb0:=cell_lt b0
 have lb1:=cell_lt b3
 have lb2:=cell_lt b4
 simp at lb0 lb1 lb2
 have OK:=hideIt hok
 have DP:=hideIt hp
 have g9:Grows W (W.alloc (.cells #[.int .i64 p.inst,.int .i64 p.pin,.int .i64 p.net,.bool p.drives] 67)):=(Grows.refl W).alloc _
 have HL:=hideIt (hl.keep g9.keeps)
 have HD:=hideIt (hd.keep g9.keeps)
 have G9:=hideIt g9
 have PB:=hideIt (Blk.new W 67 #[.int .i64 p.inst,.int .i64 p.pin,.int .i64 p.net,.bool p.drives])
 have K0:∀w',Grows (W.alloc (.cells #[.int .i64 p.inst,.int .i64 p.pin,.int .i64 p.net,.bool p.drives] 67)) w'→w'.cell? ⟨g0,0,none⟩=some (.slice I d.insts.length ni)∧w'.cell? ⟨g0,1,none⟩=some (.slice N d.nets.length nn)∧w'.cell? ⟨g0,2,none⟩=some (.slice O d.ports.length no)∧w'.cell? ⟨g1,0,none⟩=some (.slice C cs.length nc)∧w'.cell? ⟨g2,0,none⟩=some (.string s)∧w'.cell? ⟨W.heap.size,0,none⟩=some (.int .i64 p.inst)∧w'.cell? ⟨W.heap.size,1,none⟩=some (.int .i64 p.pin)∧w'.cell? ⟨W.heap.size,2,none⟩=some (.int .i64 p.net)∧w'.cell? ⟨W.heap.size,3,none⟩=some (.bool p.drives)∧Grows (W.alloc (.cells #[.int .i64 p.inst,.int .i64 p.pin,.int .i64 p.net,.bool p.drives] 67)) w':=fun w' G=>⟨G.keeps _ _ (G9.out.keeps _ _ b0),G.keeps _ _ (G9.out.keeps _ _ b1),G.keeps _ _ (G9.out.keeps _ _ b2),G.keeps _ _ (G9.out.keeps _ _ b3),G.keeps _ _ (G9.out.keeps _ _ b4),G.keeps _ _ (PB.out.cell 0),G.keeps _ _ (PB.out.cell 1),G.keeps _ _ (PB.out.cell 2),G.keeps _ _ (PB.out.cell 3),G⟩
 have HK:=hideIt K0
 have gg:Grows (W.alloc (.cells #[.int .i64 p.inst,.int .i64 p.pin,.int .i64 p.net,.bool p.drives] 67)) (W.alloc (.cells #[.int .i64 p.inst,.int .i64 p.pin,.int .i64 p.net,.bool p.drives] 67)):=Grows.refl _
 clear K0 g9 hl hd hok hp
 by_cases he:nameOf cs d p=s
 ·have EV:=hideIt (show decide (nameOf cs d p=s)=true by simp [he])
  have HE:=hideIt he
  clear he
  go_enter Tryz.func91,Tryz.ntmps91
  go_wp2
  refine wp_region_held_drew (S:=(fun w'=>w'.cell? ⟨g0,0,none⟩=some (.slice I d.insts.length ni)∧w'.cell? ⟨g0,1,none⟩=some (.slice N d.nets.length nn)∧w'.cell? ⟨g0,2,none⟩=some (.slice O d.ports.length no)∧w'.cell? ⟨g1,0,none⟩=some (.slice C cs.length nc)∧w'.cell? ⟨g2,0,none⟩=some (.string s)∧w'.cell? ⟨W.heap.size,0,none⟩=some (.int .i64 p.inst)∧w'.cell? ⟨W.heap.size,1,none⟩=some (.int .i64 p.pin)∧w'.cell? ⟨W.heap.size,2,none⟩=some (.int .i64 p.net)∧w'.cell? ⟨W.heap.size,3,none⟩=some (.bool p.drives)∧Grows (W.alloc (.cells #[.int .i64 p.inst,.int .i64 p.pin,.int .i64 p.net,.bool p.drives] 67)) w')) (by kernel_rfl) ?_ (fun hh0=>?_)
  ·(try dsimp only);exact HK.out _ gk
  refine regTk 0 hh0 ?_
  refine regTk 1 hh0 ?_
  refine regTk 2 hh0 ?_
  refine regTk 4 hh0 ?_
  refine regCall 3 (fun K hK=>?_)
  go_simp
  refine (iName_any p _ (HL.out.keep (Grows.keeps gk)) (HD.out.keep (Grows.keeps gk)) OK.out DP.out).mono ?_
  rintro e wx ⟨rfl,g⟩
  rw [HE.out]
  replace gg:=gg.gt g
  clear g
  (try go_wp2_with fail)
  refine hK.out _ _ ?_ (fun hh1=>?_)
  ·(try dsimp only);exact HK.out _ gk
  clear hK K hh0
  try simp only [Act.put,List.setIfInBounds_toArray,List.set_cons_zero,List.set_cons_succ]
  refine regTk 5 hh1 ?_
  refine regTk 6 hh1 ?_
  refine wpAnyH_done (by kernel_rfl) ?_ _
  clear hh1 HK
  go_wp2
  go_ret
  exact ⟨ret_bool (by rw [EV.out]),G9.out.trans gg⟩
 ·have EV:=hideIt (show decide (nameOf cs d p=s)=false by simp [he])
  obtain ⟨nm,en⟩:∃nm,nm=nameOf cs d p:=⟨_,rfl⟩
  rw [←en] at he
  have EN:=hideIt en
  have he1:=strNe he
  clear he en
  go_enter Tryz.func91,Tryz.ntmps91
  go_wp2
  refine wp_region_held_drew (S:=(fun w'=>w'.cell? ⟨g0,0,none⟩=some (.slice I d.insts.length ni)∧w'.cell? ⟨g0,1,none⟩=some (.slice N d.nets.length nn)∧w'.cell? ⟨g0,2,none⟩=some (.slice O d.ports.length no)∧w'.cell? ⟨g1,0,none⟩=some (.slice C cs.length nc)∧w'.cell? ⟨g2,0,none⟩=some (.string s)∧w'.cell? ⟨W.heap.size,0,none⟩=some (.int .i64 p.inst)∧w'.cell? ⟨W.heap.size,1,none⟩=some (.int .i64 p.pin)∧w'.cell? ⟨W.heap.size,2,none⟩=some (.int .i64 p.net)∧w'.cell? ⟨W.heap.size,3,none⟩=some (.bool p.drives)∧Grows (W.alloc (.cells #[.int .i64 p.inst,.int .i64 p.pin,.int .i64 p.net,.bool p.drives] 67)) w')) (by kernel_rfl) ?_ (fun hh0=>?_)
  ·(try dsimp only);exact HK.out _ gk
  refine regTk 0 hh0 ?_
  refine regTk 1 hh0 ?_
  refine regTk 2 hh0 ?_
  refine regTk 4 hh0 ?_
  refine regCall 3 (fun K hK=>?_)
  go_simp
  refine (iName_any p _ (HL.out.keep (Grows.keeps gk)) (HD.out.keep (Grows.keeps gk)) OK.out DP.out).mono ?_
  rintro e wx ⟨rfl,g⟩
  rw [←EN.out]
  replace gg:=gg.gt g
  clear g
  (try go_wp2_with fail)
  refine hK.out _ _ ?_ (fun hh1=>?_)
  ·(try dsimp only);exact HK.out _ gk
  clear hK K hh0
  try simp only [Act.put,List.setIfInBounds_toArray,List.set_cons_zero,List.set_cons_succ]
  refine regTk 5 hh1 ?_
  refine regTk 6 hh1 ?_
  refine wpAnyH_done (by kernel_rfl) ?_ _
  clear hh1 HK
  go_wp2
  go_ret
  exact ⟨ret_bool EV.out.symm,G9.out.trans gg⟩

set_option maxHeartbeats 4000000 in
set_option maxRecDepth 10000 in
theorem iPlaceNamed_in {a b c:Value} {d:DesignD} {vl:Value} {cs:List CellD} (s:ByteArray) (w:World) (hl:RCells w vl cs) (hd:RDesign w [a,b,c] d) (hp:DesP cs d) :
  Calls Tryz.prog 52 #[.agg #[a,b,c],.agg #[vl],.string s] w fun e w'=>e=.returned (.int .i64 (idxF (fun p=>decide (nameOf cs d p=s)) (placesL d)))∧Grows w w':=by
 have cl:=RList.len hl
 obtain ⟨C,nc,rfl⟩:∃(D:Option Addr) (q:Nat),vl=.slice D cs.length q:=by obtain ⟨D,q,e,-⟩:=RList.form hl;exact ⟨D,q,e⟩
 have il:=RList.len hd.parts.1
 have nl:=RList.len hd.parts.2.1
 have ol:=RList.len hd.parts.2.2
 obtain ⟨I,N,O,ni,nn,no,rfl,rfl,rfl⟩:=des_open hd
 have DP:=hideIt hp
 clear hp
 have g:Grows w w:=Grows.refl w
 have G:Hid (Grows w (((w.alloc (.cells #[.slice I d.insts.length ni,.slice N d.nets.length nn,.slice O d.ports.length no] 31)).alloc (.cells #[.slice C cs.length nc] 26)).alloc (.cells #[.string s] 9))):=hideIt ((((Grows.refl w).alloc _).alloc _).alloc _)
 clear g
 have SD:Hid (Blk (((w.alloc (.cells #[.slice I d.insts.length ni,.slice N d.nets.length nn,.slice O d.ports.length no] 31)).alloc (.cells #[.slice C cs.length nc] 26)).alloc (.cells #[.string s] 9)) (w.heap.size) 31 #[.slice I d.insts.length ni,.slice N d.nets.length nn,.slice O d.ports.length no]):=by
  have:=(Blk.new w 31 #[.slice I d.insts.length ni,.slice N d.nets.length nn,.slice O d.ports.length no]).grows (((Grows.refl (w.alloc (.cells #[.slice I d.insts.length ni,.slice N d.nets.length nn,.slice O d.ports.length no] 31))).alloc (.cells #[.slice C cs.length nc] 26)).alloc (.cells #[.string s] 9))
  exact hideIt (by simpa using this)
 have SL:Hid (Blk (((w.alloc (.cells #[.slice I d.insts.length ni,.slice N d.nets.length nn,.slice O d.ports.length no] 31)).alloc (.cells #[.slice C cs.length nc] 26)).alloc (.cells #[.string s] 9)) (w.heap.size+1) 26 #[.slice C cs.length nc]):=by
  have:=(Blk.new (w.alloc (.cells #[.slice I d.insts.length ni,.slice N d.nets.length nn,.slice O d.ports.length no] 31)) 26 #[.slice C cs.length nc]).grows ((Grows.refl ((w.alloc (.cells #[.slice I d.insts.length ni,.slice N d.nets.length nn,.slice O d.ports.length no] 31)).alloc (.cells #[.slice C cs.length nc] 26))).alloc (.cells #[.string s] 9))
  exact hideIt (by simpa using this)
 have BS:Hid (Blk (((w.alloc (.cells #[.slice I d.insts.length ni,.slice N d.nets.length nn,.slice O d.ports.length no] 31)).alloc (.cells #[.slice C cs.length nc] 26)).alloc (.cells #[.string s] 9)) (w.heap.size+1+1) 9 #[.string s]):=by
  have:=(Blk.new ((w.alloc (.cells #[.slice I d.insts.length ni,.slice N d.nets.length nn,.slice O d.ports.length no] 31)).alloc (.cells #[.slice C cs.length nc] 26)) 9 #[.string s]).grows (Grows.refl (((w.alloc (.cells #[.slice I d.insts.length ni,.slice N d.nets.length nn,.slice O d.ports.length no] 31)).alloc (.cells #[.slice C cs.length nc] 26)).alloc (.cells #[.string s] 9)))
  exact hideIt (by simpa using this)
 replace hl:=hideIt (hl.keep G.out.keeps)
 replace hd:=hideIt (hd.keep G.out.keeps)
 go_enter Tryz.func52,Tryz.ntmps52
 go_wp2_with fail
 refine (iPlaces_any _ hd.out DP.out).mono ?_
 rintro e u1 ⟨v,rfl,rp,g⟩
 replace G:=hideIt (G.out.trans g)
 replace hl:=hideIt (hl.out.keep g.keeps)
 replace hd:=hideIt (hd.out.keep g.keeps)
 replace SD:=hideIt (SD.out.grows g)
 replace SL:=hideIt (SL.out.grows g)
 replace BS:=hideIt (BS.out.grows g)
 clear g
 have kSD_0:u1.cell? ⟨w.heap.size,0,none⟩=some (.slice I d.insts.length ni):=SD.out.cell 0
 have kSD_1:u1.cell? ⟨w.heap.size,1,none⟩=some (.slice N d.nets.length nn):=SD.out.cell 1
 have kSD_2:u1.cell? ⟨w.heap.size,2,none⟩=some (.slice O d.ports.length no):=SD.out.cell 2
 have fSD:=SD.out.frozen
 have lSD:w.heap.size<u1.heap.size:=SD.out.lt
 have kSL_0:u1.cell? ⟨w.heap.size+1,0,none⟩=some (.slice C cs.length nc):=SL.out.cell 0
 have fSL:=SL.out.frozen
 have lSL:w.heap.size+1<u1.heap.size:=SL.out.lt
 have kBS_0:u1.cell? ⟨w.heap.size+1+1,0,none⟩=some (.string s):=BS.out.cell 0
 have fBS:=BS.out.frozen
 have lBS:w.heap.size+1+1<u1.heap.size:=BS.out.lt
 replace rp:=hideIt rp
 go_wp2_with fail
 refine (indexFuncPlace_any 91 _ (fun args W=>enters_of Tryz.func91 (by kernel_rfl) rfl args W) (fun p=>decide (nameOf cs d p=s)) _ rp.out ?_).mono ?_
 ·intro y c0 c1 c2 c3 W hy gw hr
  exact placeNamed1_any s y c0 c1 c2 c3 _ _ _ W hr (hl.out.keep gw.keeps) (hd.out.keep gw.keeps) (place_ok DP.out hy) DP.out (gw.keeps _ _ kSD_0) (gw.keeps _ _ kSD_1) (gw.keeps _ _ kSD_2) (gw.keeps _ _ kSL_0) (gw.keeps _ _ kBS_0)
 rintro e w9 ⟨rfl,g⟩
 have G9:=hideIt (G.out.trans g)
 clear g
 go_wp2
 go_ret
 exact ⟨ret_int rfl,G9.out⟩

set_option maxHeartbeats 2000000 in
set_option maxRecDepth 10000 in
theorem iPlaceNamed_any {vl:Value} {cs:List CellD} {a b c:Value} {d:DesignD} (s:ByteArray) (w:World) (hl:RCells w vl cs) (hd:RDesign w [a,b,c] d) (hsl:SmCells cs) (hsd:SmDesign d) :
  Calls Tryz.prog 17 #[.agg #[vl],.agg #[a,b,c],.string s] w fun e w'=>e=.returned (.int .i64 (namedV cs d s))∧Grows w w':=by
 have cl:=RList.len hl
 obtain ⟨C,nc,rfl⟩:∃(D:Option Addr) (q:Nat),vl=.slice D cs.length q:=by obtain ⟨D,q,e,-⟩:=RList.form hl;exact ⟨D,q,e⟩
 have il:=RList.len hd.parts.1
 have nl:=RList.len hd.parts.2.1
 have ol:=RList.len hd.parts.2.2
 obtain ⟨I,N,O,ni,nn,no,rfl,rfl,rfl⟩:=des_open hd
 have SA:=hideIt hsl
 have SB:=hideIt hsd
 clear hsl hsd
 have g:Grows w w:=Grows.refl w
 have G:Hid (Grows w ((w.alloc (.cells #[.slice C cs.length nc] 26)).alloc (.cells #[.slice I d.insts.length ni,.slice N d.nets.length nn,.slice O d.ports.length no] 31))):=hideIt (((Grows.refl w).alloc _).alloc _)
 clear g
 have SL:Hid (Blk ((w.alloc (.cells #[.slice C cs.length nc] 26)).alloc (.cells #[.slice I d.insts.length ni,.slice N d.nets.length nn,.slice O d.ports.length no] 31)) (w.heap.size) 26 #[.slice C cs.length nc]):=by
  have:=(Blk.new w 26 #[.slice C cs.length nc]).grows ((Grows.refl (w.alloc (.cells #[.slice C cs.length nc] 26))).alloc (.cells #[.slice I d.insts.length ni,.slice N d.nets.length nn,.slice O d.ports.length no] 31))
  exact hideIt (by simpa using this)
 have SD:Hid (Blk ((w.alloc (.cells #[.slice C cs.length nc] 26)).alloc (.cells #[.slice I d.insts.length ni,.slice N d.nets.length nn,.slice O d.ports.length no] 31)) (w.heap.size+1) 31 #[.slice I d.insts.length ni,.slice N d.nets.length nn,.slice O d.ports.length no]):=by
  have:=(Blk.new (w.alloc (.cells #[.slice C cs.length nc] 26)) 31 #[.slice I d.insts.length ni,.slice N d.nets.length nn,.slice O d.ports.length no]).grows (Grows.refl ((w.alloc (.cells #[.slice C cs.length nc] 26)).alloc (.cells #[.slice I d.insts.length ni,.slice N d.nets.length nn,.slice O d.ports.length no] 31)))
  exact hideIt (by simpa using this)
 replace hl:=hideIt (hl.keep G.out.keeps)
 replace hd:=hideIt (hd.keep G.out.keeps)
 go_enter Tryz.func17,Tryz.ntmps17
 go_wp2_with fail
 refine (iIsDes_any _ hl.out hd.out SA.out SB.out).mono ?_
 rintro e u1 ⟨rfl,g⟩
 replace G:=hideIt (G.out.trans g)
 replace hl:=hideIt (hl.out.keep g.keeps)
 replace hd:=hideIt (hd.out.keep g.keeps)
 replace SL:=hideIt (SL.out.grows g)
 replace SD:=hideIt (SD.out.grows g)
 clear g
 have kSL_0:u1.cell? ⟨w.heap.size,0,none⟩=some (.slice C cs.length nc):=SL.out.cell 0
 have fSL:=SL.out.frozen
 have lSL:w.heap.size<u1.heap.size:=SL.out.lt
 have kSD_0:u1.cell? ⟨w.heap.size+1,0,none⟩=some (.slice I d.insts.length ni):=SD.out.cell 0
 have kSD_1:u1.cell? ⟨w.heap.size+1,1,none⟩=some (.slice N d.nets.length nn):=SD.out.cell 1
 have kSD_2:u1.cell? ⟨w.heap.size+1,2,none⟩=some (.slice O d.ports.length no):=SD.out.cell 2
 have fSD:=SD.out.frozen
 have lSD:w.heap.size+1<u1.heap.size:=SD.out.lt
 cases hc:desB cs d
 ·have E2:=hideIt (show (namedV cs d s)=-1 from if_neg (by rw [hc];decide))
  clear hc
  go_wp2
  go_ret
  exact ⟨ret_int E2.out.symm,G.out⟩
 ·have DP:=hideIt (pB_iff.1 (show pB (DesP cs d)=true from hc))
  have E2:=hideIt (show (namedV cs d s)=idxF (fun p=>decide (nameOf cs d p=s)) (placesL d) from if_pos hc)
  clear hc
  go_wp2_with fail
  clear kSL_0 fSL lSL kSD_0 kSD_1 kSD_2 fSD lSD
  refine (iPlaceNamed_in s _ hl.out hd.out DP.out).mono ?_
  rintro e u2 ⟨rfl,g⟩
  replace G:=hideIt (G.out.trans g)
  replace hl:=hideIt (hl.out.keep g.keeps)
  replace hd:=hideIt (hd.out.keep g.keeps)
  replace SL:=hideIt (SL.out.grows g)
  replace SD:=hideIt (SD.out.grows g)
  clear g
  have kSL_0:u2.cell? ⟨w.heap.size,0,none⟩=some (.slice C cs.length nc):=SL.out.cell 0
  have fSL:=SL.out.frozen
  have lSL:w.heap.size<u2.heap.size:=SL.out.lt
  have kSD_0:u2.cell? ⟨w.heap.size+1,0,none⟩=some (.slice I d.insts.length ni):=SD.out.cell 0
  have kSD_1:u2.cell? ⟨w.heap.size+1,1,none⟩=some (.slice N d.nets.length nn):=SD.out.cell 1
  have kSD_2:u2.cell? ⟨w.heap.size+1,2,none⟩=some (.slice O d.ports.length no):=SD.out.cell 2
  have fSD:=SD.out.frozen
  have lSD:w.heap.size+1<u2.heap.size:=SD.out.lt
  go_wp2
  go_ret
  exact ⟨ret_int E2.out.symm,G.out⟩

end Go.Proofs.YtlnpefiipdkafaaGreatDoor
