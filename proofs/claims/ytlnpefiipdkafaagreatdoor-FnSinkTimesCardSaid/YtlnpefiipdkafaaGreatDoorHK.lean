/-
  The reference's functions over places.
-/
import Derived.Test.YtlnpefiipdkafaaGreatDoorHJ
import Derived.Test.YtlnpefiipdkafaaGreatDoorHC
import Derived.Test.YtlnpefiipdkafaaGreatDoorHA
import Derived.Test.YtlnpefiipdkafaaGreatDoorHB
namespace Go.Proofs.YtlnpefiipdkafaaGreatDoor
open Go.RowKit





set_option maxHeartbeats 4000000 in
set_option maxRecDepth 10000 in
theorem sAt_any {vl:Value} {cs:List CellD} {a b c:Value} {d:DesignD} (n:Int) (w:World) (hl:RCells w vl cs) (hd:RDesign w [a,b,c] d) :
  Calls Tryz.prog 65 #[.agg #[vl],.agg #[a,b,c],.int .i64 n] w fun e w'=>e=.returned (.tuple #[plV (atV cs d n),.bool (atB cs d n)])∧Grows w w':=by
 have cl:=RList.len hl
 obtain ⟨C,nc,rfl⟩:∃(D:Option Addr) (q:Nat),vl=.slice D cs.length q:=by obtain ⟨D,q,e,-⟩:=RList.form hl;exact ⟨D,q,e⟩
 have il:=RList.len hd.parts.1
 have nl:=RList.len hd.parts.2.1
 have ol:=RList.len hd.parts.2.2
 obtain ⟨I,N,O,ni,nn,no,rfl,rfl,rfl⟩:=des_open hd
 have g:Grows w w:=Grows.refl w
 have G:Hid (Grows w (((w.alloc (.cells #[.slice C cs.length nc] 26)).alloc (.cells #[.slice I d.insts.length ni,.slice N d.nets.length nn,.slice O d.ports.length no] 31)).alloc (.cells #[.int .i64 0,.int .i64 0,.int .i64 0,.bool false] 98))):=hideIt ((((Grows.refl w).alloc _).alloc _).alloc _)
 clear g
 have SL:Hid (Blk (((w.alloc (.cells #[.slice C cs.length nc] 26)).alloc (.cells #[.slice I d.insts.length ni,.slice N d.nets.length nn,.slice O d.ports.length no] 31)).alloc (.cells #[.int .i64 0,.int .i64 0,.int .i64 0,.bool false] 98)) (w.heap.size) 26 #[.slice C cs.length nc]):=by
  have:=(Blk.new w 26 #[.slice C cs.length nc]).grows (((Grows.refl (w.alloc (.cells #[.slice C cs.length nc] 26))).alloc (.cells #[.slice I d.insts.length ni,.slice N d.nets.length nn,.slice O d.ports.length no] 31)).alloc (.cells #[.int .i64 0,.int .i64 0,.int .i64 0,.bool false] 98))
  exact hideIt (by simpa using this)
 have SD:Hid (Blk (((w.alloc (.cells #[.slice C cs.length nc] 26)).alloc (.cells #[.slice I d.insts.length ni,.slice N d.nets.length nn,.slice O d.ports.length no] 31)).alloc (.cells #[.int .i64 0,.int .i64 0,.int .i64 0,.bool false] 98)) (w.heap.size+1) 31 #[.slice I d.insts.length ni,.slice N d.nets.length nn,.slice O d.ports.length no]):=by
  have:=(Blk.new (w.alloc (.cells #[.slice C cs.length nc] 26)) 31 #[.slice I d.insts.length ni,.slice N d.nets.length nn,.slice O d.ports.length no]).grows ((Grows.refl ((w.alloc (.cells #[.slice C cs.length nc] 26)).alloc (.cells #[.slice I d.insts.length ni,.slice N d.nets.length nn,.slice O d.ports.length no] 31))).alloc (.cells #[.int .i64 0,.int .i64 0,.int .i64 0,.bool false] 98))
  exact hideIt (by simpa using this)
 have RB:Hid (Blk (((w.alloc (.cells #[.slice C cs.length nc] 26)).alloc (.cells #[.slice I d.insts.length ni,.slice N d.nets.length nn,.slice O d.ports.length no] 31)).alloc (.cells #[.int .i64 0,.int .i64 0,.int .i64 0,.bool false] 98)) (w.heap.size+1+1) 98 #[.int .i64 0,.int .i64 0,.int .i64 0,.bool false]):=by
  have:=(Blk.new ((w.alloc (.cells #[.slice C cs.length nc] 26)).alloc (.cells #[.slice I d.insts.length ni,.slice N d.nets.length nn,.slice O d.ports.length no] 31)) 98 #[.int .i64 0,.int .i64 0,.int .i64 0,.bool false]).grows (Grows.refl (((w.alloc (.cells #[.slice C cs.length nc] 26)).alloc (.cells #[.slice I d.insts.length ni,.slice N d.nets.length nn,.slice O d.ports.length no] 31)).alloc (.cells #[.int .i64 0,.int .i64 0,.int .i64 0,.bool false] 98)))
  exact hideIt (by simpa using this)
 replace hl:=hideIt (hl.keep G.out.keeps)
 replace hd:=hideIt (hd.keep G.out.keeps)
 go_enter Tryz.func65,Tryz.ntmps65
 go_wp2_with fail
 refine (sIsDes_any _ hl.out hd.out).mono ?_
 rintro e u1 ⟨rfl,g⟩
 replace G:=hideIt (G.out.trans g)
 replace hl:=hideIt (hl.out.keep g.keeps)
 replace hd:=hideIt (hd.out.keep g.keeps)
 replace SL:=hideIt (SL.out.grows g)
 replace SD:=hideIt (SD.out.grows g)
 replace RB:=hideIt (RB.out.grows g)
 clear g
 have kSL_0:u1.cell? ⟨w.heap.size,0,none⟩=some (.slice C cs.length nc):=SL.out.cell 0
 have fSL:=SL.out.frozen
 have lSL:w.heap.size<u1.heap.size:=SL.out.lt
 have kSD_0:u1.cell? ⟨w.heap.size+1,0,none⟩=some (.slice I d.insts.length ni):=SD.out.cell 0
 have kSD_1:u1.cell? ⟨w.heap.size+1,1,none⟩=some (.slice N d.nets.length nn):=SD.out.cell 1
 have kSD_2:u1.cell? ⟨w.heap.size+1,2,none⟩=some (.slice O d.ports.length no):=SD.out.cell 2
 have fSD:=SD.out.frozen
 have lSD:w.heap.size+1<u1.heap.size:=SD.out.lt
 have kRB_0:u1.cell? ⟨w.heap.size+1+1,0,none⟩=some (.int .i64 0):=RB.out.cell 0
 have kRB_1:u1.cell? ⟨w.heap.size+1+1,1,none⟩=some (.int .i64 0):=RB.out.cell 1
 have kRB_2:u1.cell? ⟨w.heap.size+1+1,2,none⟩=some (.int .i64 0):=RB.out.cell 2
 have kRB_3:u1.cell? ⟨w.heap.size+1+1,3,none⟩=some (.bool false):=RB.out.cell 3
 have fRB:=RB.out.frozen
 have lRB:w.heap.size+1+1<u1.heap.size:=RB.out.lt
 cases hc:desB cs d
 ·have E1:=hideIt (atB_no (n:=n) hc)
  clear hc
  go_wp2
  refine bodyPost_ret (by simp [*,results,Tryz.results65,go_sem];try rfl) rfl ?_
  exact ⟨by rw [atV_no E1.out,E1.out];rfl,by repeat (first|exact G.out|exact G.out.drewN _|refine Grows.drew ?_|refine Grows.drewN ?_ _|refine Grows.setCell ?_ (by simp<;>omega) _|refine Grows.alloc ?_ _)⟩
 ·have DP:=hideIt (pB_iff.1 (show pB (DesP cs d)=true from hc))
  have E1:=hideIt (atB_eq (n:=n) hc)
  clear hc
  go_wp2_with fail
  clear kSL_0 fSL lSL kSD_0 kSD_1 kSD_2 fSD lSD kRB_0 kRB_1 kRB_2 kRB_3 fRB lRB
  refine (sPlaces_any _ hd.out DP.out).mono ?_
  rintro e u2 ⟨v,rfl,rp,g⟩
  replace G:=hideIt (G.out.trans g)
  replace hl:=hideIt (hl.out.keep g.keeps)
  replace hd:=hideIt (hd.out.keep g.keeps)
  replace SL:=hideIt (SL.out.grows g)
  replace SD:=hideIt (SD.out.grows g)
  replace RB:=hideIt (RB.out.grows g)
  have pl:=places_len DP.out
  obtain ⟨A,m,rfl⟩:∃(D:Option Addr) (q:Nat),v=.slice D (placesL d).length q:=by obtain ⟨D,q,e,-⟩:=RList.form rp;exact ⟨D,q,e⟩
  clear g
  have kSL_0:u2.cell? ⟨w.heap.size,0,none⟩=some (.slice C cs.length nc):=SL.out.cell 0
  have fSL:=SL.out.frozen
  have lSL:w.heap.size<u2.heap.size:=SL.out.lt
  have kSD_0:u2.cell? ⟨w.heap.size+1,0,none⟩=some (.slice I d.insts.length ni):=SD.out.cell 0
  have kSD_1:u2.cell? ⟨w.heap.size+1,1,none⟩=some (.slice N d.nets.length nn):=SD.out.cell 1
  have kSD_2:u2.cell? ⟨w.heap.size+1,2,none⟩=some (.slice O d.ports.length no):=SD.out.cell 2
  have fSD:=SD.out.frozen
  have lSD:w.heap.size+1<u2.heap.size:=SD.out.lt
  have kRB_0:u2.cell? ⟨w.heap.size+1+1,0,none⟩=some (.int .i64 0):=RB.out.cell 0
  have kRB_1:u2.cell? ⟨w.heap.size+1+1,1,none⟩=some (.int .i64 0):=RB.out.cell 1
  have kRB_2:u2.cell? ⟨w.heap.size+1+1,2,none⟩=some (.int .i64 0):=RB.out.cell 2
  have kRB_3:u2.cell? ⟨w.heap.size+1+1,3,none⟩=some (.bool false):=RB.out.cell 3
  have fRB:=RB.out.frozen
  have lRB:w.heap.size+1+1<u2.heap.size:=RB.out.lt
  replace rp:=hideIt rp
  go_wp2_with fail
  refine (l01In_any _ _ _ _).mono ?_
  rintro e wq ⟨rfl,rfl⟩
  cases hi:inB n 0 (((placesL d).length:Int) - 1)
  ·have E3:=hideIt (E1.out.trans hi)
   clear hi
   go_wp2
   refine bodyPost_ret (by simp [*,results,Tryz.results65,go_sem];try rfl) rfl ?_
   exact ⟨by rw [atV_no E3.out,E3.out];rfl,by repeat (first|exact G.out|exact G.out.drewN _|refine Grows.drew ?_|refine Grows.drewN ?_ _|refine Grows.setCell ?_ (by simp<;>omega) _|refine Grows.alloc ?_ _)⟩
  ·have E3:=hideIt (E1.out.trans hi)
   clear hi
   obtain ⟨-,n0,nlt,hat,-⟩:=atB_true E3.out
   obtain ⟨k,rfl⟩:=Int.eq_ofNat_of_zero_le n0
   rw [Int.toNat_natCast] at hat nlt
   obtain ⟨p,ep⟩:∃p,p=atV cs d (k:Int):=⟨_,rfl⟩
   rw [←ep] at hat
   have EP:=hideIt ep
   clear ep n0
   obtain ⟨bi,oi,rfl,q0,q1,q2,q3⟩:=place_at rp.out hat
   clear hat
   go_wp2
   refine bodyPost_ret (by simp [*,results,Tryz.results65,go_sem];try rfl) rfl ?_
   exact ⟨by rw [←EP.out,E3.out];rfl,by repeat (first|exact G.out|exact G.out.drewN _|refine Grows.drew ?_|refine Grows.drewN ?_ _|refine Grows.setCell ?_ (by simp<;>omega) _|refine Grows.alloc ?_ _)⟩



set_option maxHeartbeats 8000000 in
set_option maxRecDepth 10000 in
theorem sCap_any {vl:Value} {cs:List CellD} {a b c:Value} {d:DesignD} (p:PlaceD) (w:World) (hl:RCells w vl cs) (hd:RDesign w [a,b,c] d) (hok:PlaceOk cs d p) :
  Calls Tryz.prog 66 #[.agg #[vl],.agg #[a,b,c],plV p] w fun e w'=>e=.returned (.int .i64 (capOf cs d p))∧Grows w w':=by
 have cl:=RList.len hl
 obtain ⟨C,nc,rfl⟩:∃(D:Option Addr) (q:Nat),vl=.slice D cs.length q:=by obtain ⟨D,q,e,-⟩:=RList.form hl;exact ⟨D,q,e⟩
 have il:=RList.len hd.parts.1
 have nl:=RList.len hd.parts.2.1
 have ol:=RList.len hd.parts.2.2
 obtain ⟨I,N,O,ni,nn,no,rfl,rfl,rfl⟩:=des_open hd
 unfold plV
 rcases hok.at_ with ⟨i,k,x,c,q,hi,hk,hx,hc0,hc,hq⟩|⟨hi,k,o,hk,ho⟩
 ·have PA:=hideIt (capOf_pin (by omega) (pinAt_of hi hk hx hc hq))
  obtain ⟨n,e⟩:∃n:Nat,x.cell=(n:Int):=⟨x.cell.toNat,by omega⟩
  rw [hi,hk]
  have g:Grows w w:=Grows.refl w
  have G:Hid (Grows w (((w.alloc (.cells #[.slice C cs.length nc] 26)).alloc (.cells #[.slice I d.insts.length ni,.slice N d.nets.length nn,.slice O d.ports.length no] 31)).alloc (.cells #[.int .i64 (i:Int),.int .i64 (k:Int),.int .i64 p.net,.bool p.drives] 98))):=hideIt ((((Grows.refl w).alloc _).alloc _).alloc _)
  clear g
  have SL:Hid (Blk (((w.alloc (.cells #[.slice C cs.length nc] 26)).alloc (.cells #[.slice I d.insts.length ni,.slice N d.nets.length nn,.slice O d.ports.length no] 31)).alloc (.cells #[.int .i64 (i:Int),.int .i64 (k:Int),.int .i64 p.net,.bool p.drives] 98)) (w.heap.size) 26 #[.slice C cs.length nc]):=by
   have:=(Blk.new w 26 #[.slice C cs.length nc]).grows (((Grows.refl (w.alloc (.cells #[.slice C cs.length nc] 26))).alloc (.cells #[.slice I d.insts.length ni,.slice N d.nets.length nn,.slice O d.ports.length no] 31)).alloc (.cells #[.int .i64 (i:Int),.int .i64 (k:Int),.int .i64 p.net,.bool p.drives] 98))
   exact hideIt (by simpa using this)
  have SD:Hid (Blk (((w.alloc (.cells #[.slice C cs.length nc] 26)).alloc (.cells #[.slice I d.insts.length ni,.slice N d.nets.length nn,.slice O d.ports.length no] 31)).alloc (.cells #[.int .i64 (i:Int),.int .i64 (k:Int),.int .i64 p.net,.bool p.drives] 98)) (w.heap.size+1) 31 #[.slice I d.insts.length ni,.slice N d.nets.length nn,.slice O d.ports.length no]):=by
   have:=(Blk.new (w.alloc (.cells #[.slice C cs.length nc] 26)) 31 #[.slice I d.insts.length ni,.slice N d.nets.length nn,.slice O d.ports.length no]).grows ((Grows.refl ((w.alloc (.cells #[.slice C cs.length nc] 26)).alloc (.cells #[.slice I d.insts.length ni,.slice N d.nets.length nn,.slice O d.ports.length no] 31))).alloc (.cells #[.int .i64 (i:Int),.int .i64 (k:Int),.int .i64 p.net,.bool p.drives] 98))
   exact hideIt (by simpa using this)
  have PB:Hid (Blk (((w.alloc (.cells #[.slice C cs.length nc] 26)).alloc (.cells #[.slice I d.insts.length ni,.slice N d.nets.length nn,.slice O d.ports.length no] 31)).alloc (.cells #[.int .i64 (i:Int),.int .i64 (k:Int),.int .i64 p.net,.bool p.drives] 98)) (w.heap.size+1+1) 98 #[.int .i64 (i:Int),.int .i64 (k:Int),.int .i64 p.net,.bool p.drives]):=by
   have:=(Blk.new ((w.alloc (.cells #[.slice C cs.length nc] 26)).alloc (.cells #[.slice I d.insts.length ni,.slice N d.nets.length nn,.slice O d.ports.length no] 31)) 98 #[.int .i64 (i:Int),.int .i64 (k:Int),.int .i64 p.net,.bool p.drives]).grows (Grows.refl (((w.alloc (.cells #[.slice C cs.length nc] 26)).alloc (.cells #[.slice I d.insts.length ni,.slice N d.nets.length nn,.slice O d.ports.length no] 31)).alloc (.cells #[.int .i64 (i:Int),.int .i64 (k:Int),.int .i64 p.net,.bool p.drives] 98)))
   exact hideIt (by simpa using this)
  replace hl:=hideIt (hl.keep G.out.keeps)
  replace hd:=hideIt (hd.keep G.out.keeps)
  have hx1:i<d.insts.length:=(List.getElem?_eq_some_iff.1 hx).1
  have hc1:n<cs.length:=by have:=(List.getElem?_eq_some_iff.1 hc).1;omega
  have hq1:k<c.pins.length:=(List.getElem?_eq_some_iff.1 hq).1
  rw [e,Int.toNat_natCast] at hc
  obtain ⟨bi,oi,XN,xn,rfl,-,p1,-,hxn,-⟩:=inst_at hd.out.parts.1 hx
  obtain ⟨bc,oc,PP,pn,rfl,cp,rq⟩:=pins_at hl.out hc
  obtain ⟨bp,op,rfl,-,-,q2,-⟩:=pin_at rq hq
  have ql:=RList.len rq
  rw [e] at p1
  have l0:=hx1
  have l1:(i:Int)<(d.insts.length:Int):=by omega
  have l2:(n:Int)<(cs.length:Int):=by omega
  have l3:(k:Int)<(c.pins.length:Int):=by omega
  have l4:(0:Int)≤(i:Int):=by omega
  have l5:(0:Int)≤(n:Int):=by omega
  have l6:(0:Int)≤(k:Int):=by omega
  have tn:decide ((i:Int)<0)=false:=by simp
  clear hi hk hx hc hq hxn rq e hc0
  have kSL_0:=SL.out.cell 0
  have lSL:=SL.out.lt
  have kSD_0:=SD.out.cell 0
  have kSD_1:=SD.out.cell 1
  have kSD_2:=SD.out.cell 2
  have lSD:=SD.out.lt
  have kPB_0:=PB.out.cell 0
  have kPB_1:=PB.out.cell 1
  have kPB_2:=PB.out.cell 2
  have kPB_3:=PB.out.cell 3
  have lPB:=PB.out.lt
  go_enter Tryz.func66,Tryz.ntmps66
  go_wp2
  try (go_quiet (fail);go_wp2)
  go_ret
  exact ⟨ret_int PA.out.symm,by repeat (first|exact G.out|exact G.out.drewN _|refine Grows.drew ?_)⟩
 ·have PA:=hideIt (capOf_port (l:=cs) (d:=d) (p:=p) (by omega))
  rw [hi]
  clear hi hk ho hok
  have g:Grows w w:=Grows.refl w
  have G:Hid (Grows w (((w.alloc (.cells #[.slice C cs.length nc] 26)).alloc (.cells #[.slice I d.insts.length ni,.slice N d.nets.length nn,.slice O d.ports.length no] 31)).alloc (.cells #[.int .i64 (-1),.int .i64 p.pin,.int .i64 p.net,.bool p.drives] 98))):=hideIt ((((Grows.refl w).alloc _).alloc _).alloc _)
  clear g
  have SL:Hid (Blk (((w.alloc (.cells #[.slice C cs.length nc] 26)).alloc (.cells #[.slice I d.insts.length ni,.slice N d.nets.length nn,.slice O d.ports.length no] 31)).alloc (.cells #[.int .i64 (-1),.int .i64 p.pin,.int .i64 p.net,.bool p.drives] 98)) (w.heap.size) 26 #[.slice C cs.length nc]):=by
   have:=(Blk.new w 26 #[.slice C cs.length nc]).grows (((Grows.refl (w.alloc (.cells #[.slice C cs.length nc] 26))).alloc (.cells #[.slice I d.insts.length ni,.slice N d.nets.length nn,.slice O d.ports.length no] 31)).alloc (.cells #[.int .i64 (-1),.int .i64 p.pin,.int .i64 p.net,.bool p.drives] 98))
   exact hideIt (by simpa using this)
  have SD:Hid (Blk (((w.alloc (.cells #[.slice C cs.length nc] 26)).alloc (.cells #[.slice I d.insts.length ni,.slice N d.nets.length nn,.slice O d.ports.length no] 31)).alloc (.cells #[.int .i64 (-1),.int .i64 p.pin,.int .i64 p.net,.bool p.drives] 98)) (w.heap.size+1) 31 #[.slice I d.insts.length ni,.slice N d.nets.length nn,.slice O d.ports.length no]):=by
   have:=(Blk.new (w.alloc (.cells #[.slice C cs.length nc] 26)) 31 #[.slice I d.insts.length ni,.slice N d.nets.length nn,.slice O d.ports.length no]).grows ((Grows.refl ((w.alloc (.cells #[.slice C cs.length nc] 26)).alloc (.cells #[.slice I d.insts.length ni,.slice N d.nets.length nn,.slice O d.ports.length no] 31))).alloc (.cells #[.int .i64 (-1),.int .i64 p.pin,.int .i64 p.net,.bool p.drives] 98))
   exact hideIt (by simpa using this)
  have PB:Hid (Blk (((w.alloc (.cells #[.slice C cs.length nc] 26)).alloc (.cells #[.slice I d.insts.length ni,.slice N d.nets.length nn,.slice O d.ports.length no] 31)).alloc (.cells #[.int .i64 (-1),.int .i64 p.pin,.int .i64 p.net,.bool p.drives] 98)) (w.heap.size+1+1) 98 #[.int .i64 (-1),.int .i64 p.pin,.int .i64 p.net,.bool p.drives]):=by
   have:=(Blk.new ((w.alloc (.cells #[.slice C cs.length nc] 26)).alloc (.cells #[.slice I d.insts.length ni,.slice N d.nets.length nn,.slice O d.ports.length no] 31)) 98 #[.int .i64 (-1),.int .i64 p.pin,.int .i64 p.net,.bool p.drives]).grows (Grows.refl (((w.alloc (.cells #[.slice C cs.length nc] 26)).alloc (.cells #[.slice I d.insts.length ni,.slice N d.nets.length nn,.slice O d.ports.length no] 31)).alloc (.cells #[.int .i64 (-1),.int .i64 p.pin,.int .i64 p.net,.bool p.drives] 98)))
   exact hideIt (by simpa using this)
  replace hl:=hideIt (hl.keep G.out.keeps)
  replace hd:=hideIt (hd.keep G.out.keeps)
  go_enter Tryz.func66,Tryz.ntmps66
  go_wp2
  go_ret
  exact ⟨ret_int PA.out.symm,G.out⟩

set_option maxHeartbeats 4000000 in
set_option maxRecDepth 10000 in
theorem sPlaceCap_any {vl:Value} {cs:List CellD} {a b c:Value} {d:DesignD} (n:Int) (w:World) (hl:RCells w vl cs) (hd:RDesign w [a,b,c] d) :
  Calls Tryz.prog 29 #[.agg #[vl],.agg #[a,b,c],.int .i64 n] w fun e w'=>e=.returned (.int .i64 (capV cs d n))∧Grows w w':=by
 have cl:=RList.len hl
 obtain ⟨C,nc,rfl⟩:∃(D:Option Addr) (q:Nat),vl=.slice D cs.length q:=by obtain ⟨D,q,e,-⟩:=RList.form hl;exact ⟨D,q,e⟩
 have il:=RList.len hd.parts.1
 have nl:=RList.len hd.parts.2.1
 have ol:=RList.len hd.parts.2.2
 obtain ⟨I,N,O,ni,nn,no,rfl,rfl,rfl⟩:=des_open hd
 have g:Grows w w:=Grows.refl w
 have G:Hid (Grows w ((w.alloc (.cells #[.slice C cs.length nc] 26)).alloc (.cells #[.slice I d.insts.length ni,.slice N d.nets.length nn,.slice O d.ports.length no] 31))):=hideIt (((Grows.refl w).alloc _).alloc _)
 clear g
 have SL:Hid (Blk ((w.alloc (.cells #[.slice C cs.length nc] 26)).alloc (.cells #[.slice I d.insts.length ni,.slice N d.nets.length nn,.slice O d.ports.length no] 31)) (w.heap.size) 26 #[.slice C cs.length nc]):=by
  have:=(Blk.new w 26 #[.slice C cs.length nc]).grows ((Grows.refl (w.alloc (.cells #[.slice C cs.length nc] 26))).alloc (.cells #[.slice I d.insts.length ni,.slice N d.nets.length nn,.slice O d.ports.length no] 31))
  exact hideIt (by simpa using this)
 have SD:Hid (Blk ((w.alloc (.cells #[.slice C cs.length nc] 26)).alloc (.cells #[.slice I d.insts.length ni,.slice N d.nets.length nn,.slice O d.ports.length no] 31)) (w.heap.size+1) 31 #[.slice I d.insts.length ni,.slice N d.nets.length nn,.slice O d.ports.length no]):=by
  have:=(Blk.new (w.alloc (.cells #[.slice C cs.length nc] 26)) 31 #[.slice I d.insts.length ni,.slice N d.nets.length nn,.slice O d.ports.length no]).grows (Grows.refl ((w.alloc (.cells #[.slice C cs.length nc] 26)).alloc (.cells #[.slice I d.insts.length ni,.slice N d.nets.length nn,.slice O d.ports.length no] 31)))
  exact hideIt (by simpa using this)
 replace hl:=hideIt (hl.keep G.out.keeps)
 replace hd:=hideIt (hd.keep G.out.keeps)
 go_enter Tryz.func29,Tryz.ntmps29
 go_wp2_with fail
 refine (sAt_any n _ hl.out hd.out).mono ?_
 rintro e u1 ⟨rfl,g⟩
 replace G:=hideIt (G.out.trans g)
 replace hl:=hideIt (hl.out.keep g.keeps)
 replace hd:=hideIt (hd.out.keep g.keeps)
 replace SL:=hideIt (SL.out.grows g)
 replace SD:=hideIt (SD.out.grows g)
 clear g
 have kSL_0:u1.cell? ⟨w.heap.size,0,none⟩=some (.slice C cs.length nc):=SL.out.cell 0
 have fSL:=SL.out.frozen
 have lSL:w.heap.size<u1.heap.size:=SL.out.lt
 have kSD_0:u1.cell? ⟨w.heap.size+1,0,none⟩=some (.slice I d.insts.length ni):=SD.out.cell 0
 have kSD_1:u1.cell? ⟨w.heap.size+1,1,none⟩=some (.slice N d.nets.length nn):=SD.out.cell 1
 have kSD_2:u1.cell? ⟨w.heap.size+1,2,none⟩=some (.slice O d.ports.length no):=SD.out.cell 2
 have fSD:=SD.out.frozen
 have lSD:w.heap.size+1<u1.heap.size:=SD.out.lt
 have AB:=hideIt (fun h=>atB_true (l:=cs) (d:=d) (n:=n) h)
 obtain ⟨p,ep⟩:∃p,p=atV cs d n:=⟨_,rfl⟩
 rw [←ep]
 have EP:=hideIt ep
 clear ep
 unfold plV
 cases hB:atB cs d n
 ·have E3:=hideIt hB
  clear hB
  go_wp2
  go_ret
  exact ⟨ret_int (show (-1:Int)=capV cs d n by unfold capV;rw [if_neg (by rw [E3.out];decide)]),by repeat (first|exact G.out|exact G.out.drewN _|refine Grows.drew ?_|refine Grows.drewN ?_ _|refine Grows.setCell ?_ (by simp<;>omega) _|refine Grows.alloc ?_ _)⟩
 ·have DP:=hideIt (AB.out hB)
  have E3:=hideIt hB
  clear hB
  have gl:Grows u1 (u1.alloc (.cells #[.int .i64 p.inst,.int .i64 p.pin,.int .i64 p.net,.bool p.drives] 98)):=(Grows.refl _).alloc _
  replace G:=hideIt (G.out.trans gl)
  replace hl:=hideIt (hl.out.keep gl.keeps)
  replace hd:=hideIt (hd.out.keep gl.keeps)
  replace SL:=hideIt (SL.out.grows gl)
  replace SD:=hideIt (SD.out.grows gl)
  have VP:=hideIt (Blk.new u1 98 #[.int .i64 p.inst,.int .i64 p.pin,.int .i64 p.net,.bool p.drives])
  clear gl
  go_wp2_with fail
  clear kSL_0 fSL lSL kSD_0 kSD_1 kSD_2 fSD lSD
  refine (sCap_any p _ hl.out hd.out (by rw [EP.out];exact DP.out.2.2.2.2)).mono ?_
  rintro e u2 ⟨rfl,g⟩
  replace G:=hideIt (G.out.trans g)
  replace hl:=hideIt (hl.out.keep g.keeps)
  replace hd:=hideIt (hd.out.keep g.keeps)
  replace SL:=hideIt (SL.out.grows g)
  replace SD:=hideIt (SD.out.grows g)
  replace VP:=hideIt (VP.out.grows g)
  clear g
  have kSL_0:u2.cell? ⟨w.heap.size,0,none⟩=some (.slice C cs.length nc):=SL.out.cell 0
  have fSL:=SL.out.frozen
  have lSL:w.heap.size<u2.heap.size:=SL.out.lt
  have kSD_0:u2.cell? ⟨w.heap.size+1,0,none⟩=some (.slice I d.insts.length ni):=SD.out.cell 0
  have kSD_1:u2.cell? ⟨w.heap.size+1,1,none⟩=some (.slice N d.nets.length nn):=SD.out.cell 1
  have kSD_2:u2.cell? ⟨w.heap.size+1,2,none⟩=some (.slice O d.ports.length no):=SD.out.cell 2
  have fSD:=SD.out.frozen
  have lSD:w.heap.size+1<u2.heap.size:=SD.out.lt
  have kVP_0:u2.cell? ⟨u1.heap.size,0,none⟩=some (.int .i64 p.inst):=VP.out.cell 0
  have kVP_1:u2.cell? ⟨u1.heap.size,1,none⟩=some (.int .i64 p.pin):=VP.out.cell 1
  have kVP_2:u2.cell? ⟨u1.heap.size,2,none⟩=some (.int .i64 p.net):=VP.out.cell 2
  have kVP_3:u2.cell? ⟨u1.heap.size,3,none⟩=some (.bool p.drives):=VP.out.cell 3
  have fVP:=VP.out.frozen
  have lVP:u1.heap.size<u2.heap.size:=VP.out.lt
  go_wp2
  go_ret
  exact ⟨ret_int (show capOf cs d p=capV cs d n by unfold capV;rw [if_pos E3.out,←EP.out]),G.out⟩

end Go.Proofs.YtlnpefiipdkafaaGreatDoor
/-
  The program's capacitance of a place.
-/
namespace Go.Proofs.YtlnpefiipdkafaaGreatDoor
open Go.RowKit

set_option maxHeartbeats 8000000 in
set_option maxRecDepth 10000 in
theorem iCap_any {a b c:Value} {d:DesignD} {vl:Value} {cs:List CellD} (p:PlaceD) (w:World) (hl:RCells w vl cs) (hd:RDesign w [a,b,c] d) (hok:PlaceOk cs d p) :
  Calls Tryz.prog 55 #[.agg #[a,b,c],.agg #[vl],plV p] w fun e w'=>e=.returned (.int .i64 (capOf cs d p))∧Grows w w':=by
 have cl:=RList.len hl
 obtain ⟨C,nc,rfl⟩:∃(D:Option Addr) (q:Nat),vl=.slice D cs.length q:=by obtain ⟨D,q,e,-⟩:=RList.form hl;exact ⟨D,q,e⟩
 have il:=RList.len hd.parts.1
 have nl:=RList.len hd.parts.2.1
 have ol:=RList.len hd.parts.2.2
 obtain ⟨I,N,O,ni,nn,no,rfl,rfl,rfl⟩:=des_open hd
 unfold plV
 rcases hok.at_ with ⟨i,k,x,c,q,hi,hk,hx,hc0,hc,hq⟩|⟨hi,k,o,hk,ho⟩
 ·have PA:=hideIt (capOf_pin (by omega) (pinAt_of hi hk hx hc hq))
  obtain ⟨n,e⟩:∃n:Nat,x.cell=(n:Int):=⟨x.cell.toNat,by omega⟩
  rw [hi,hk]
  have g:Grows w w:=Grows.refl w
  have G:Hid (Grows w (((w.alloc (.cells #[.slice I d.insts.length ni,.slice N d.nets.length nn,.slice O d.ports.length no] 31)).alloc (.cells #[.slice C cs.length nc] 26)).alloc (.cells #[.int .i64 (i:Int),.int .i64 (k:Int),.int .i64 p.net,.bool p.drives] 67))):=hideIt ((((Grows.refl w).alloc _).alloc _).alloc _)
  clear g
  have SD:Hid (Blk (((w.alloc (.cells #[.slice I d.insts.length ni,.slice N d.nets.length nn,.slice O d.ports.length no] 31)).alloc (.cells #[.slice C cs.length nc] 26)).alloc (.cells #[.int .i64 (i:Int),.int .i64 (k:Int),.int .i64 p.net,.bool p.drives] 67)) (w.heap.size) 31 #[.slice I d.insts.length ni,.slice N d.nets.length nn,.slice O d.ports.length no]):=by
   have:=(Blk.new w 31 #[.slice I d.insts.length ni,.slice N d.nets.length nn,.slice O d.ports.length no]).grows (((Grows.refl (w.alloc (.cells #[.slice I d.insts.length ni,.slice N d.nets.length nn,.slice O d.ports.length no] 31))).alloc (.cells #[.slice C cs.length nc] 26)).alloc (.cells #[.int .i64 (i:Int),.int .i64 (k:Int),.int .i64 p.net,.bool p.drives] 67))
   exact hideIt (by simpa using this)
  have SL:Hid (Blk (((w.alloc (.cells #[.slice I d.insts.length ni,.slice N d.nets.length nn,.slice O d.ports.length no] 31)).alloc (.cells #[.slice C cs.length nc] 26)).alloc (.cells #[.int .i64 (i:Int),.int .i64 (k:Int),.int .i64 p.net,.bool p.drives] 67)) (w.heap.size+1) 26 #[.slice C cs.length nc]):=by
   have:=(Blk.new (w.alloc (.cells #[.slice I d.insts.length ni,.slice N d.nets.length nn,.slice O d.ports.length no] 31)) 26 #[.slice C cs.length nc]).grows ((Grows.refl ((w.alloc (.cells #[.slice I d.insts.length ni,.slice N d.nets.length nn,.slice O d.ports.length no] 31)).alloc (.cells #[.slice C cs.length nc] 26))).alloc (.cells #[.int .i64 (i:Int),.int .i64 (k:Int),.int .i64 p.net,.bool p.drives] 67))
   exact hideIt (by simpa using this)
  have PB:Hid (Blk (((w.alloc (.cells #[.slice I d.insts.length ni,.slice N d.nets.length nn,.slice O d.ports.length no] 31)).alloc (.cells #[.slice C cs.length nc] 26)).alloc (.cells #[.int .i64 (i:Int),.int .i64 (k:Int),.int .i64 p.net,.bool p.drives] 67)) (w.heap.size+1+1) 67 #[.int .i64 (i:Int),.int .i64 (k:Int),.int .i64 p.net,.bool p.drives]):=by
   have:=(Blk.new ((w.alloc (.cells #[.slice I d.insts.length ni,.slice N d.nets.length nn,.slice O d.ports.length no] 31)).alloc (.cells #[.slice C cs.length nc] 26)) 67 #[.int .i64 (i:Int),.int .i64 (k:Int),.int .i64 p.net,.bool p.drives]).grows (Grows.refl (((w.alloc (.cells #[.slice I d.insts.length ni,.slice N d.nets.length nn,.slice O d.ports.length no] 31)).alloc (.cells #[.slice C cs.length nc] 26)).alloc (.cells #[.int .i64 (i:Int),.int .i64 (k:Int),.int .i64 p.net,.bool p.drives] 67)))
   exact hideIt (by simpa using this)
  replace hl:=hideIt (hl.keep G.out.keeps)
  replace hd:=hideIt (hd.keep G.out.keeps)
  have hx1:i<d.insts.length:=(List.getElem?_eq_some_iff.1 hx).1
  have hc1:n<cs.length:=by have:=(List.getElem?_eq_some_iff.1 hc).1;omega
  have hq1:k<c.pins.length:=(List.getElem?_eq_some_iff.1 hq).1
  rw [e,Int.toNat_natCast] at hc
  obtain ⟨bi,oi,XN,xn,rfl,-,p1,-,hxn,-⟩:=inst_at hd.out.parts.1 hx
  obtain ⟨bc,oc,PP,pn,rfl,cp,rq⟩:=pins_at hl.out hc
  obtain ⟨bp,op,rfl,-,-,q2,-⟩:=pin_at rq hq
  have ql:=RList.len rq
  rw [e] at p1
  have l0:=hx1
  have l1:(i:Int)<(d.insts.length:Int):=by omega
  have l2:(n:Int)<(cs.length:Int):=by omega
  have l3:(k:Int)<(c.pins.length:Int):=by omega
  have l4:(0:Int)≤(i:Int):=by omega
  have l5:(0:Int)≤(n:Int):=by omega
  have l6:(0:Int)≤(k:Int):=by omega
  have tn:decide ((i:Int)<0)=false:=by simp
  clear hi hk hx hc hq hxn rq e hc0
  have kSD_0:=SD.out.cell 0
  have kSD_1:=SD.out.cell 1
  have kSD_2:=SD.out.cell 2
  have lSD:=SD.out.lt
  have kSL_0:=SL.out.cell 0
  have lSL:=SL.out.lt
  have kPB_0:=PB.out.cell 0
  have kPB_1:=PB.out.cell 1
  have kPB_2:=PB.out.cell 2
  have kPB_3:=PB.out.cell 3
  have lPB:=PB.out.lt
  go_enter Tryz.func55,Tryz.ntmps55
  go_wp2
  try (go_quiet (fail);go_wp2)
  go_ret
  exact ⟨ret_int PA.out.symm,by repeat (first|exact G.out|exact G.out.drewN _|refine Grows.drew ?_)⟩
 ·have PA:=hideIt (capOf_port (l:=cs) (d:=d) (p:=p) (by omega))
  rw [hi]
  clear hi hk ho hok
  have g:Grows w w:=Grows.refl w
  have G:Hid (Grows w (((w.alloc (.cells #[.slice I d.insts.length ni,.slice N d.nets.length nn,.slice O d.ports.length no] 31)).alloc (.cells #[.slice C cs.length nc] 26)).alloc (.cells #[.int .i64 (-1),.int .i64 p.pin,.int .i64 p.net,.bool p.drives] 67))):=hideIt ((((Grows.refl w).alloc _).alloc _).alloc _)
  clear g
  have SD:Hid (Blk (((w.alloc (.cells #[.slice I d.insts.length ni,.slice N d.nets.length nn,.slice O d.ports.length no] 31)).alloc (.cells #[.slice C cs.length nc] 26)).alloc (.cells #[.int .i64 (-1),.int .i64 p.pin,.int .i64 p.net,.bool p.drives] 67)) (w.heap.size) 31 #[.slice I d.insts.length ni,.slice N d.nets.length nn,.slice O d.ports.length no]):=by
   have:=(Blk.new w 31 #[.slice I d.insts.length ni,.slice N d.nets.length nn,.slice O d.ports.length no]).grows (((Grows.refl (w.alloc (.cells #[.slice I d.insts.length ni,.slice N d.nets.length nn,.slice O d.ports.length no] 31))).alloc (.cells #[.slice C cs.length nc] 26)).alloc (.cells #[.int .i64 (-1),.int .i64 p.pin,.int .i64 p.net,.bool p.drives] 67))
   exact hideIt (by simpa using this)
  have SL:Hid (Blk (((w.alloc (.cells #[.slice I d.insts.length ni,.slice N d.nets.length nn,.slice O d.ports.length no] 31)).alloc (.cells #[.slice C cs.length nc] 26)).alloc (.cells #[.int .i64 (-1),.int .i64 p.pin,.int .i64 p.net,.bool p.drives] 67)) (w.heap.size+1) 26 #[.slice C cs.length nc]):=by
   have:=(Blk.new (w.alloc (.cells #[.slice I d.insts.length ni,.slice N d.nets.length nn,.slice O d.ports.length no] 31)) 26 #[.slice C cs.length nc]).grows ((Grows.refl ((w.alloc (.cells #[.slice I d.insts.length ni,.slice N d.nets.length nn,.slice O d.ports.length no] 31)).alloc (.cells #[.slice C cs.length nc] 26))).alloc (.cells #[.int .i64 (-1),.int .i64 p.pin,.int .i64 p.net,.bool p.drives] 67))
   exact hideIt (by simpa using this)
  have PB:Hid (Blk (((w.alloc (.cells #[.slice I d.insts.length ni,.slice N d.nets.length nn,.slice O d.ports.length no] 31)).alloc (.cells #[.slice C cs.length nc] 26)).alloc (.cells #[.int .i64 (-1),.int .i64 p.pin,.int .i64 p.net,.bool p.drives] 67)) (w.heap.size+1+1) 67 #[.int .i64 (-1),.int .i64 p.pin,.int .i64 p.net,.bool p.drives]):=by
   have:=(Blk.new ((w.alloc (.cells #[.slice I d.insts.length ni,.slice N d.nets.length nn,.slice O d.ports.length no] 31)).alloc (.cells #[.slice C cs.length nc] 26)) 67 #[.int .i64 (-1),.int .i64 p.pin,.int .i64 p.net,.bool p.drives]).grows (Grows.refl (((w.alloc (.cells #[.slice I d.insts.length ni,.slice N d.nets.length nn,.slice O d.ports.length no] 31)).alloc (.cells #[.slice C cs.length nc] 26)).alloc (.cells #[.int .i64 (-1),.int .i64 p.pin,.int .i64 p.net,.bool p.drives] 67)))
   exact hideIt (by simpa using this)
  replace hl:=hideIt (hl.keep G.out.keeps)
  replace hd:=hideIt (hd.keep G.out.keeps)
  go_enter Tryz.func55,Tryz.ntmps55
  go_wp2
  go_ret
  exact ⟨ret_int PA.out.symm,G.out⟩

end Go.Proofs.YtlnpefiipdkafaaGreatDoor
