/-
  Sinks of a net, the reference's.
-/
import Derived.Test.YtlnpefiipdkafaaGreatDoorHJ
import Derived.Test.YtlnpefiipdkafaaGreatDoorHC
import Derived.Test.YtlnpefiipdkafaaGreatDoorHU
import Derived.Test.YtlnpefiipdkafaaGreatDoorHB
import Derived.Test.YtlnpefiipdkafaaGreatDoorHA
namespace Go.Proofs.YtlnpefiipdkafaaGreatDoor
open Go.RowKit

set_option maxHeartbeats 8000000 in
set_option maxRecDepth 10000 in
theorem sSinks_b {a b c:Value} {d:DesignD} (n:Int) (w:World) (hd:RDesign w [a,b,c] d) (hp:PlBd d) :
  Calls Tryz.prog 64 #[.agg #[a,b,c],.int .i64 n] w fun e w'=>∃(A:Option Addr) (c:Nat) (bs:List Nat),e=.returned (.slice A (sinksL d n).length c)∧OInts w' (.slice A (sinksL d n).length c) (sinksL d n) bs∧Own w.heap.size w'.heap.size bs∧Grows w w':=by
 have il:=RList.len hd.parts.1
 have nl:=RList.len hd.parts.2.1
 have ol:=RList.len hd.parts.2.2
 obtain ⟨I,N,O,ni,nn,no,rfl,rfl,rfl⟩:=des_open hd
 obtain ⟨i0,hi,hz0,hz1,hz2⟩:=info_parts info_i64'
 have DP:=hideIt hp
 clear hp
 have g:Grows w w:=Grows.refl w
 have G:Hid (Grows w (w.alloc (.cells #[.slice I d.insts.length ni,.slice N d.nets.length nn,.slice O d.ports.length no] 31))):=hideIt ((Grows.refl w).alloc _)
 clear g
 have SD:Hid (Blk (w.alloc (.cells #[.slice I d.insts.length ni,.slice N d.nets.length nn,.slice O d.ports.length no] 31)) (w.heap.size) 31 #[.slice I d.insts.length ni,.slice N d.nets.length nn,.slice O d.ports.length no]):=by
  have:=(Blk.new w 31 #[.slice I d.insts.length ni,.slice N d.nets.length nn,.slice O d.ports.length no]).grows (Grows.refl (w.alloc (.cells #[.slice I d.insts.length ni,.slice N d.nets.length nn,.slice O d.ports.length no] 31)))
  exact hideIt (by simpa using this)
 replace hd:=hideIt (hd.keep G.out.keeps)
 go_enter Tryz.func64,Tryz.ntmps64
 have gl:Grows (w.alloc (.cells #[.slice I d.insts.length ni,.slice N d.nets.length nn,.slice O d.ports.length no] 31)) ((w.alloc (.cells #[.slice I d.insts.length ni,.slice N d.nets.length nn,.slice O d.ports.length no] 31)).alloc (.cells #[] 2)):=(Grows.refl _).alloc _
 replace G:=hideIt (G.out.trans gl)
 replace hd:=hideIt (hd.out.keep gl.keeps)
 replace SD:=hideIt (SD.out.grows gl)
 have RO:Hid (Blk ((w.alloc (.cells #[.slice I d.insts.length ni,.slice N d.nets.length nn,.slice O d.ports.length no] 31)).alloc (.cells #[] 2)) (w.heap.size+1) 2 #[]):=by
  have:=Blk.new (w.alloc (.cells #[.slice I d.insts.length ni,.slice N d.nets.length nn,.slice O d.ports.length no] 31)) 2 #[]
  exact hideIt (by simpa using this)
 clear gl
 go_wp2_with fail
 refine (sPlaces_b _ hd.out DP.out).mono ?_
 rintro e u1 ⟨v,rfl,rp,g⟩
 replace G:=hideIt (G.out.trans g)
 replace hd:=hideIt (hd.out.keep g.keeps)
 replace SD:=hideIt (SD.out.grows g)
 replace RO:=hideIt (RO.out.grows g)
 have pl:=places_lenB DP.out
 obtain ⟨A,m,rfl⟩:∃(D:Option Addr) (q:Nat),v=.slice D (placesL d).length q:=by obtain ⟨D,q,e,-⟩:=RList.form rp;exact ⟨D,q,e⟩
 clear g
 have kSD_0:u1.cell? ⟨w.heap.size,0,none⟩=some (.slice I d.insts.length ni):=SD.out.cell 0
 have kSD_1:u1.cell? ⟨w.heap.size,1,none⟩=some (.slice N d.nets.length nn):=SD.out.cell 1
 have kSD_2:u1.cell? ⟨w.heap.size,2,none⟩=some (.slice O d.ports.length no):=SD.out.cell 2
 have fSD:=SD.out.frozen
 have lSD:w.heap.size<u1.heap.size:=SD.out.lt
 have fRO:=RO.out.frozen
 have lRO:w.heap.size+1<u1.heap.size:=RO.out.lt
 replace rp:=hideIt rp
 have own0:Hid (u1.ownsRow (w.heap.size+1) 2 1 (.slice (some ⟨w.heap.size+1,0,none⟩) 0 0) 0 []):=hideIt ⟨rfl,.inr ⟨_,0,#[],rfl,Nat.le_refl _,RO.out,Nat.le_refl _,Nat.zero_le _,rfl,rfl⟩⟩
 have N0:Hid (w.heap.size+1<u1.heap.size):=hideIt RO.out.lt
 go_wp2
 clear kSD_0 kSD_1 kSD_2 fSD lSD fRO lRO
 go_loopw [5,7] (fun s z wr=>∃(nv:Value) (k:Nat),nv=s∧k≤(placesL d).length∧z=.int .i64 (k:Int)∧Hid (wr.ownsRow (w.heap.size+1) 2 1 nv (snkL n (placesL d) k).length ((snkL n (placesL d) k).map (Value.int .i64)))∧Hid (∀q,nv.ownBlock=some q→q=w.heap.size+1∨u1.heap.size≤q)∧Hid (Chg [w.heap.size+1] u1 wr)) (fun _ z _=>(placesL d).length - (intOf z).toNat)
 case atStart=>exact ⟨_,0,rfl,Nat.zero_le _,rfl,own0.out,hideIt (fun q e=>.inl (Option.some.inj e).symm),hideIt (Chg.refl _ _)⟩
 case round =>
  obtain ⟨nv,k,rfl,hk,rfl,hown,hnb,hch⟩:=hrel
  have sl:=snkL_len n (placesL d) k
  by_cases hlt:k<(placesL d).length
  ·obtain ⟨p,hp⟩:∃p,(placesL d)[k]?=some p:=⟨_,List.getElem?_eq_getElem hlt⟩
   obtain ⟨bi,oi,rfl,a0,a1,a2,a3⟩:=place_at rp.out hp
   have ne:=blk_empty_ne RO.out a0
   have q2:=hch.out.cell a2 (by simp [ne])
   have q3:=hch.out.cell a3 (by simp [ne])
   have SS:=hideIt (snkL_succ (n:=n) hp)
   have l1:(k:Int)<((placesL d).length:Int):=by omega
   have l4:(0:Int)≤(k:Int):=by omega
   clear hp ne a0 a1 a2 a3
   by_cases e1:p.net=n
   ·have t1:(p.net==n)=true:=beq_iff_eq.2 e1
    cases e2:p.drives
    ·have EP:=hideIt (show (if snkAt n p=true then [(k:Int)] else [])=[(k:Int)] from if_pos (by unfold snkAt;simp [e1,e2]))
     rw [e2] at q3
     clear e1 e2
     have own1:=hideIt (hown.out.alloc (.cells #[.int .i64 (k:Int)] 2))
     have CA:=hideIt (hch.out.alloc (.cells #[.int .i64 (k:Int)] 2))
     go_wp2_with (at_builtin;refine wpList_append_own_at _ rfl _ _ 39 rfl (w.heap.size+1) 2 i0 (.int .i64 0) 1 8 Tryz.underlying39 hi hz0 hz1 hz2 rfl (by decide) nv (snkL n (placesL d) k).length ((snkL n (placesL d) k).map (Value.int .i64)) rfl own1.out ⟨wr.heap.size,0,none⟩ 1 1 [.int .i64 (k:Int)] rfl ?c1 ?c2 ?c3 ?c4 ?c5 ?c6 ?_)
     case c1=>simp
     case c2 =>
      intro j u hj
      match j,hj with
      | 0,hj=>simp at hj;subst hj;simp [Addr.add]
     case c3=>intro u hu;simp at hu;subst hu;rfl
     case c4=>unfold maxLen;omega
     case c5=>omega
     case c6=>have:=Nat.le_trans (Nat.le_of_lt N0.out) CA.out.size;simpa using this
     intro v' w4 hown3 hgrow hnil hat
     have CH4:=hideIt (CA.out.grown hgrow (fun q e=>by
      rcases hnb.out q e with h|h
      ·exact .inl (by simp [h])
      ·exact .inr h))
     have NB4:Hid (∀q,v'.ownBlock=some q→q=w.heap.size+1∨u1.heap.size≤q):=hideIt fun q e=>by
      rcases hat with h|h
      ·exact hnb.out q (h ▸ e)
      ·rw [h] at e
       injection e with e
       right
       have hs:=CA.out.size
       simp at hs e
       omega
     have OW:=hideIt (show w4.ownsRow (w.heap.size+1) 2 1 v' (snkL n (placesL d) (k+1)).length ((snkL n (placesL d) (k+1)).map (Value.int .i64)) by rw [SS.out,EP.out,List.length_append,List.map_append];exact hown3)
     clear hown3 hgrow hnil hat own1
     go_wp2
     go_roundw
     case rel=>exact ⟨_,k+1,rfl,by omega,by go_num,OW.out,NB4,CH4⟩
     case measure=>simp [intOf];omega
    ·have EP:=hideIt (show (if snkAt n p=true then [(k:Int)] else [])=[] from if_neg (by unfold snkAt;simp [e1,e2]))
     rw [e2] at q3
     clear e1 e2
     have OW:=hideIt (show wr.ownsRow (w.heap.size+1) 2 1 nv (snkL n (placesL d) (k+1)).length ((snkL n (placesL d) (k+1)).map (Value.int .i64)) by rw [SS.out,EP.out];simpa using hown.out)
     go_wp2
     go_roundw
     case rel=>exact ⟨_,k+1,rfl,by omega,by go_num,OW.out,hnb,hch⟩
     case measure=>simp [intOf];omega
   ·have t1:(p.net==n)=false:=beq_eq_false_iff_ne.2 e1
    have EP:=hideIt (show (if snkAt n p=true then [(k:Int)] else [])=[] from if_neg (by unfold snkAt;simp [e1]))
    clear e1
    have OW:=hideIt (show wr.ownsRow (w.heap.size+1) 2 1 nv (snkL n (placesL d) (k+1)).length ((snkL n (placesL d) (k+1)).map (Value.int .i64)) by rw [SS.out,EP.out];simpa using hown.out)
    go_wp2
    go_roundw
    case rel=>exact ⟨_,k+1,rfl,by omega,by go_num,OW.out,hnb,hch⟩
    case measure=>simp [intOf];omega
  ·obtain rfl:k=(placesL d).length:=by omega
   obtain ⟨A2,c2,bs,rfl,ho,how⟩:=own_oints (xs:=sinksL d n) hown.out
   have HO:=hideIt ho
   have HW:=hideIt how
   have GE:=hideIt (G.out.chg hch.out (by simp))
   clear ho how hown hnb hch
   go_wp2
   go_ret
   exact ⟨_,_,_,rfl,HO.out,HW.out.mono (by omega) (Nat.le_refl _),GE.out⟩
theorem sSinks_in {a b c:Value} {d:DesignD} {cs:List CellD} (n:Int) (w:World) (hd:RDesign w [a,b,c] d) (hp:DesP cs d) :
  Calls Tryz.prog 64 #[.agg #[a,b,c],.int .i64 n] w fun e w'=>∃(A:Option Addr) (c:Nat) (bs:List Nat),e=.returned (.slice A (sinksL d n).length c)∧OInts w' (.slice A (sinksL d n).length c) (sinksL d n) bs∧Own w.heap.size w'.heap.size bs∧Grows w w':=sSinks_b n w hd hp.bd

set_option maxHeartbeats 4000000 in
set_option maxRecDepth 10000 in
theorem sSinksOf_any {vl:Value} {cs:List CellD} {a b c:Value} {d:DesignD} (n:Int) (w:World) (hl:RCells w vl cs) (hd:RDesign w [a,b,c] d) :
  Calls Tryz.prog 28 #[.agg #[vl],.agg #[a,b,c],.int .i64 n] w fun e w'=>∃(A:Option Addr) (c:Nat) (bs:List Nat),e=.returned (.slice A (sinksV cs d n).length c)∧OInts w' (.slice A (sinksV cs d n).length c) (sinksV cs d n) bs∧Own w.heap.size w'.heap.size bs∧Grows w w':=by
 have cl:=RList.len hl
 obtain ⟨C,nc,rfl⟩:∃(D:Option Addr) (q:Nat),vl=.slice D cs.length q:=by obtain ⟨D,q,e,-⟩:=RList.form hl;exact ⟨D,q,e⟩
 have il:=RList.len hd.parts.1
 have nl:=RList.len hd.parts.2.1
 have ol:=RList.len hd.parts.2.2
 obtain ⟨I,N,O,ni,nn,no,rfl,rfl,rfl⟩:=des_open hd
 have g:Grows w w:=Grows.refl w
 have G:Hid (Grows w ((w.alloc (.cells #[.slice C cs.length nc] 26)).alloc (.cells #[.slice I d.insts.length ni,.slice N d.nets.length nn,.slice O d.ports.length no] 31))):=hideIt (((Grows.refl w).alloc _).alloc _)
 clear g
 have SL:Hid (Blk ((w.alloc (.cells #[.slice C cs.length nc] 26)).alloc (.cells #[.slice I d.insts.length ni,.slice N d.nets.length nn,.slice O d.ports.length no] 31)) (w.heap.size) 26 #[.slice C cs.length nc]):=by
  have:=(Blk.new w 26 #[.slice C cs.length nc]).grows ((Grows.refl (w.alloc (.cells #[.slice C cs.length nc] 26))).alloc (.cells #[.slice I d.insts.length ni,.slice N d.nets.length nn,.slice O d.ports.length no] 31))
  exact hideIt (by simpa using this)
 have SD:Hid (Blk ((w.alloc (.cells #[.slice C cs.length nc] 26)).alloc (.cells #[.slice I d.insts.length ni,.slice N d.nets.length nn,.slice O d.ports.length no] 31)) (w.heap.size+1) 31 #[.slice I d.insts.length ni,.slice N d.nets.length nn,.slice O d.ports.length no]):=by
  have:=(Blk.new (w.alloc (.cells #[.slice C cs.length nc] 26)) 31 #[.slice I d.insts.length ni,.slice N d.nets.length nn,.slice O d.ports.length no]).grows (Grows.refl ((w.alloc (.cells #[.slice C cs.length nc] 26)).alloc (.cells #[.slice I d.insts.length ni,.slice N d.nets.length nn,.slice O d.ports.length no] 31)))
  exact hideIt (by simpa using this)
 replace hl:=hideIt (hl.keep G.out.keeps)
 replace hd:=hideIt (hd.keep G.out.keeps)
 go_enter Tryz.func28,Tryz.ntmps28
 go_wp2_with fail
 refine (sIsDes_any _ hl.out hd.out).mono ?_
 rintro e u1 ⟨rfl,g⟩
 replace G:=hideIt (G.out.trans g)
 replace hl:=hideIt (hl.out.keep g.keeps)
 replace hd:=hideIt (hd.out.keep g.keeps)
 replace SL:=hideIt (SL.out.grows g)
 replace SD:=hideIt (SD.out.grows g)
 clear g
 have kSL_0:u1.cell? ⟨w.heap.size,0,none⟩=some (.slice C cs.length nc):=SL.out.cell 0
 have fSL:=SL.out.frozen
 have lSL:w.heap.size<u1.heap.size:=SL.out.lt
 have kSD_0:u1.cell? ⟨w.heap.size+1,0,none⟩=some (.slice I d.insts.length ni):=SD.out.cell 0
 have kSD_1:u1.cell? ⟨w.heap.size+1,1,none⟩=some (.slice N d.nets.length nn):=SD.out.cell 1
 have kSD_2:u1.cell? ⟨w.heap.size+1,2,none⟩=some (.slice O d.ports.length no):=SD.out.cell 2
 have fSD:=SD.out.frozen
 have lSD:w.heap.size+1<u1.heap.size:=SD.out.lt
 cases hc:desB cs d
 ·have E2:=hideIt (show sinksV cs d n=[] from if_neg (by rw [hc];decide))
  clear hc
  go_wp2
  go_ret
  exact ⟨none,0,[],by rw [E2.out];rfl,by rw [E2.out];exact .inl ⟨rfl,rfl,rfl⟩,Own.nil,G.out⟩
 ·have DP:=hideIt (pB_iff.1 (show pB (DesP cs d)=true from hc))
  have E2:=hideIt (show sinksV cs d n=sinksL d n from if_pos hc)
  clear hc
  have GS:=hideIt G.out.size
  go_wp2_with fail
  clear kSL_0 fSL lSL kSD_0 kSD_1 kSD_2 fSD lSD
  refine (sSinks_in n _ hd.out DP.out).mono ?_
  rintro e u2 ⟨A2,c2,bs,rfl,ho,how,g⟩
  replace G:=hideIt (G.out.trans g)
  replace hl:=hideIt (hl.out.keep g.keeps)
  replace hd:=hideIt (hd.out.keep g.keeps)
  replace SL:=hideIt (SL.out.grows g)
  replace SD:=hideIt (SD.out.grows g)
  have HO:=hideIt ho
  have HW:=hideIt how
  clear ho how
  clear g
  have kSL_0:u2.cell? ⟨w.heap.size,0,none⟩=some (.slice C cs.length nc):=SL.out.cell 0
  have fSL:=SL.out.frozen
  have lSL:w.heap.size<u2.heap.size:=SL.out.lt
  have kSD_0:u2.cell? ⟨w.heap.size+1,0,none⟩=some (.slice I d.insts.length ni):=SD.out.cell 0
  have kSD_1:u2.cell? ⟨w.heap.size+1,1,none⟩=some (.slice N d.nets.length nn):=SD.out.cell 1
  have kSD_2:u2.cell? ⟨w.heap.size+1,2,none⟩=some (.slice O d.ports.length no):=SD.out.cell 2
  have fSD:=SD.out.frozen
  have lSD:w.heap.size+1<u2.heap.size:=SD.out.lt
  go_wp2
  go_ret
  exact ⟨_,_,bs,ret_slice (show (sinksL d n).length=(sinksV cs d n).length by rw [E2.out]),by rw [E2.out];exact HO.out,HW.out.mono GS.out (Nat.le_refl _),G.out⟩

end Go.Proofs.YtlnpefiipdkafaaGreatDoor
/-
  Sinks of a net, the program's.
-/
namespace Go.Proofs.YtlnpefiipdkafaaGreatDoor
open Go.RowKit

set_option maxHeartbeats 8000000 in
set_option maxRecDepth 10000 in
theorem iSinks_in {a b c:Value} {d:DesignD} {cs:List CellD} (n:Int) (w:World) (hd:RDesign w [a,b,c] d) (hp:DesP cs d) :
  Calls Tryz.prog 50 #[.agg #[a,b,c],.int .i64 n] w fun e w'=>∃(A:Option Addr) (c:Nat) (bs:List Nat),e=.returned (.slice A (sinksL d n).length c)∧OInts w' (.slice A (sinksL d n).length c) (sinksL d n) bs∧Own w.heap.size w'.heap.size bs∧Grows w w':=by
 have il:=RList.len hd.parts.1
 have nl:=RList.len hd.parts.2.1
 have ol:=RList.len hd.parts.2.2
 obtain ⟨I,N,O,ni,nn,no,rfl,rfl,rfl⟩:=des_open hd
 obtain ⟨i0,hi,hz0,hz1,hz2⟩:=info_parts info_i64'
 have DP:=hideIt hp
 clear hp
 have g:Grows w w:=Grows.refl w
 have G:Hid (Grows w (w.alloc (.cells #[.slice I d.insts.length ni,.slice N d.nets.length nn,.slice O d.ports.length no] 31))):=hideIt ((Grows.refl w).alloc _)
 clear g
 have SD:Hid (Blk (w.alloc (.cells #[.slice I d.insts.length ni,.slice N d.nets.length nn,.slice O d.ports.length no] 31)) (w.heap.size) 31 #[.slice I d.insts.length ni,.slice N d.nets.length nn,.slice O d.ports.length no]):=by
  have:=(Blk.new w 31 #[.slice I d.insts.length ni,.slice N d.nets.length nn,.slice O d.ports.length no]).grows (Grows.refl (w.alloc (.cells #[.slice I d.insts.length ni,.slice N d.nets.length nn,.slice O d.ports.length no] 31)))
  exact hideIt (by simpa using this)
 replace hd:=hideIt (hd.keep G.out.keeps)
 go_enter Tryz.func50,Tryz.ntmps50
 go_wp2_with fail
 refine (iPlaces_any _ hd.out DP.out).mono ?_
 rintro e u1 ⟨v,rfl,rp,g⟩
 replace G:=hideIt (G.out.trans g)
 replace hd:=hideIt (hd.out.keep g.keeps)
 replace SD:=hideIt (SD.out.grows g)
 have pl:=places_len DP.out
 obtain ⟨A,m,rfl⟩:∃(D:Option Addr) (q:Nat),v=.slice D (placesL d).length q:=by obtain ⟨D,q,e,-⟩:=RList.form rp;exact ⟨D,q,e⟩
 clear g
 have kSD_0:u1.cell? ⟨w.heap.size,0,none⟩=some (.slice I d.insts.length ni):=SD.out.cell 0
 have kSD_1:u1.cell? ⟨w.heap.size,1,none⟩=some (.slice N d.nets.length nn):=SD.out.cell 1
 have kSD_2:u1.cell? ⟨w.heap.size,2,none⟩=some (.slice O d.ports.length no):=SD.out.cell 2
 have fSD:=SD.out.frozen
 have lSD:w.heap.size<u1.heap.size:=SD.out.lt
 replace rp:=hideIt rp
 go_wp2
 clear kSD_0 kSD_1 kSD_2 fSD lSD
 go_loopw [5,6,7,11] (fun s _ _ z wr=>∃(nv:Value) (k:Nat),nv=s∧k≤(placesL d).length∧z=.int .i64 (k:Int)∧Hid (wr.ownsRow (u1.heap.size) 2 1 nv (snkL n (placesL d) k).length ((snkL n (placesL d) k).map (Value.int .i64)))∧Grows u1 wr) (fun _ _ _ z _=>(placesL d).length - (intOf z).toNat)
 case atStart=>exact ⟨_,0,rfl,Nat.zero_le _,rfl,hideIt (by simpa [snkL] using World.ownsRow_nil _ _ _ _),Grows.refl _⟩
 case round =>
  obtain ⟨nv,k,rfl,hk,rfl,hown,hg⟩:=hrel
  have HG:=hideIt hg
  clear hg
  have sl:=snkL_len n (placesL d) k
  by_cases hlt:k<(placesL d).length
  ·obtain ⟨p,hp⟩:∃p,(placesL d)[k]?=some p:=⟨_,List.getElem?_eq_getElem hlt⟩
   obtain ⟨bi,oi,rfl,a0,a1,a2,a3⟩:=place_at (RPlaces.keep rp.out HG.out.keeps) hp
   have SS:=hideIt (snkL_succ (n:=n) hp)
   have l1:(k:Int)<((placesL d).length:Int):=by omega
   have l4:(0:Int)≤(k:Int):=by omega
   clear hp 
   by_cases e1:p.net=n
   ·have t1:(p.net==n)=true:=beq_iff_eq.2 e1
    cases e2:p.drives
    ·have EP:=hideIt (show (if snkAt n p=true then [(k:Int)] else [])=[(k:Int)] from if_pos (by unfold snkAt;simp [e1,e2]))
     rw [e2] at a3
     clear e1 e2
     have own1:=hideIt ((hown.out.alloc (.cells #[.int .i64 p.inst,.int .i64 p.pin,.int .i64 p.net,.bool false] 67)).alloc (.cells #[.int .i64 (k:Int)] 2))
     have GA:=hideIt ((HG.out.alloc (.cells #[.int .i64 p.inst,.int .i64 p.pin,.int .i64 p.net,.bool false] 67)).alloc (.cells #[.int .i64 (k:Int)] 2))
     have nlt:Hid (∀q,nv.ownBlock=some q→u1.heap.size≤q∧q<wr.heap.size):=hideIt hown.out.lt
     go_wp2_with (at_builtin;refine wpList_append_own_at _ rfl _ _ 39 rfl (u1.heap.size) 2 i0 (.int .i64 0) 1 8 Tryz.underlying39 hi hz0 hz1 hz2 rfl (by decide) nv (snkL n (placesL d) k).length ((snkL n (placesL d) k).map (Value.int .i64)) rfl own1.out ⟨wr.heap.size+1,0,none⟩ 1 1 [.int .i64 (k:Int)] rfl ?c1 ?c2 ?c3 ?c4 ?c5 ?c6 ?_)
     case c1=>simp
     case c2 =>
      intro j u hj
      match j,hj with
      | 0,hj=>simp at hj;subst hj;simp [Addr.add]
     case c3=>intro u hu;simp at hu;subst hu;rfl
     case c4=>unfold maxLen;omega
     case c5=>omega
     case c6=>have:=GA.out.size;simpa using this
     intro v' w4 hown3 hgrow hnil hat
     have G4:=hideIt (GA.out.grown hgrow (fun q e=>(nlt.out q e).1))
     have OW:=hideIt (show w4.ownsRow (u1.heap.size) 2 1 v' (snkL n (placesL d) (k+1)).length ((snkL n (placesL d) (k+1)).map (Value.int .i64)) by rw [SS.out,EP.out,List.length_append,List.map_append];exact hown3)
     clear hown3 hgrow hnil hat own1
     go_wp2
     go_roundw
     case rel=>exact ⟨_,k+1,rfl,by omega,by go_num,OW.out,G4.out⟩
     case measure=>simp [intOf];omega
    ·have EP:=hideIt (show (if snkAt n p=true then [(k:Int)] else [])=[] from if_neg (by unfold snkAt;simp [e1,e2]))
     rw [e2] at a3
     clear e1 e2
     have OW:=hideIt (show wr.ownsRow (u1.heap.size) 2 1 nv (snkL n (placesL d) (k+1)).length ((snkL n (placesL d) (k+1)).map (Value.int .i64)) by rw [SS.out,EP.out];simpa using hown.out)
     go_wp2
     go_roundw
     case rel=>exact ⟨_,k+1,rfl,by omega,by go_num,hideIt (ownsRow_grows OW.out (by repeat (first|exact Grows.refl _|refine Grows.drew ?_|refine Grows.alloc ?_ _))),by repeat (first|exact HG.out|refine Grows.drew ?_|refine Grows.alloc ?_ _)⟩
     case measure=>simp [intOf];omega
   ·have t1:(p.net==n)=false:=beq_eq_false_iff_ne.2 e1
    have EP:=hideIt (show (if snkAt n p=true then [(k:Int)] else [])=[] from if_neg (by unfold snkAt;simp [e1]))
    clear e1
    have OW:=hideIt (show wr.ownsRow (u1.heap.size) 2 1 nv (snkL n (placesL d) (k+1)).length ((snkL n (placesL d) (k+1)).map (Value.int .i64)) by rw [SS.out,EP.out];simpa using hown.out)
    go_wp2
    go_roundw
    case rel=>exact ⟨_,k+1,rfl,by omega,by go_num,hideIt (ownsRow_grows OW.out (by repeat (first|exact Grows.refl _|refine Grows.drew ?_|refine Grows.alloc ?_ _))),by repeat (first|exact HG.out|refine Grows.drew ?_|refine Grows.alloc ?_ _)⟩
    case measure=>simp [intOf];omega
  ·obtain rfl:k=(placesL d).length:=by omega
   obtain ⟨A2,c2,bs,rfl,ho,how⟩:=own_oints (xs:=sinksL d n) hown.out
   have HO:=hideIt ho
   have HW:=hideIt how
   have GE:=hideIt (G.out.trans HG.out)
   clear ho how hown
   go_wp2
   go_ret
   exact ⟨_,_,_,rfl,HO.out,HW.out.mono (by have:=G.out.size;omega) (Nat.le_refl _),GE.out⟩

set_option maxHeartbeats 4000000 in
set_option maxRecDepth 10000 in
theorem iSinksOf_any {vl:Value} {cs:List CellD} {a b c:Value} {d:DesignD} (n:Int) (w:World) (hl:RCells w vl cs) (hd:RDesign w [a,b,c] d) (hsl:SmCells cs) (hsd:SmDesign d) :
  Calls Tryz.prog 15 #[.agg #[vl],.agg #[a,b,c],.int .i64 n] w fun e w'=>∃(A:Option Addr) (c:Nat) (bs:List Nat),e=.returned (.slice A (sinksV cs d n).length c)∧OInts w' (.slice A (sinksV cs d n).length c) (sinksV cs d n) bs∧Own w.heap.size w'.heap.size bs∧Grows w w':=by
 have cl:=RList.len hl
 obtain ⟨C,nc,rfl⟩:∃(D:Option Addr) (q:Nat),vl=.slice D cs.length q:=by obtain ⟨D,q,e,-⟩:=RList.form hl;exact ⟨D,q,e⟩
 have il:=RList.len hd.parts.1
 have nl:=RList.len hd.parts.2.1
 have ol:=RList.len hd.parts.2.2
 obtain ⟨I,N,O,ni,nn,no,rfl,rfl,rfl⟩:=des_open hd
 have SA:=hideIt hsl
 have SB:=hideIt hsd
 clear hsl hsd
 have g:Grows w w:=Grows.refl w
 have G:Hid (Grows w ((w.alloc (.cells #[.slice C cs.length nc] 26)).alloc (.cells #[.slice I d.insts.length ni,.slice N d.nets.length nn,.slice O d.ports.length no] 31))):=hideIt (((Grows.refl w).alloc _).alloc _)
 clear g
 have SL:Hid (Blk ((w.alloc (.cells #[.slice C cs.length nc] 26)).alloc (.cells #[.slice I d.insts.length ni,.slice N d.nets.length nn,.slice O d.ports.length no] 31)) (w.heap.size) 26 #[.slice C cs.length nc]):=by
  have:=(Blk.new w 26 #[.slice C cs.length nc]).grows ((Grows.refl (w.alloc (.cells #[.slice C cs.length nc] 26))).alloc (.cells #[.slice I d.insts.length ni,.slice N d.nets.length nn,.slice O d.ports.length no] 31))
  exact hideIt (by simpa using this)
 have SD:Hid (Blk ((w.alloc (.cells #[.slice C cs.length nc] 26)).alloc (.cells #[.slice I d.insts.length ni,.slice N d.nets.length nn,.slice O d.ports.length no] 31)) (w.heap.size+1) 31 #[.slice I d.insts.length ni,.slice N d.nets.length nn,.slice O d.ports.length no]):=by
  have:=(Blk.new (w.alloc (.cells #[.slice C cs.length nc] 26)) 31 #[.slice I d.insts.length ni,.slice N d.nets.length nn,.slice O d.ports.length no]).grows (Grows.refl ((w.alloc (.cells #[.slice C cs.length nc] 26)).alloc (.cells #[.slice I d.insts.length ni,.slice N d.nets.length nn,.slice O d.ports.length no] 31)))
  exact hideIt (by simpa using this)
 replace hl:=hideIt (hl.keep G.out.keeps)
 replace hd:=hideIt (hd.keep G.out.keeps)
 go_enter Tryz.func15,Tryz.ntmps15
 go_wp2_with fail
 refine (iIsDes_any _ hl.out hd.out SA.out SB.out).mono ?_
 rintro e u1 ⟨rfl,g⟩
 replace G:=hideIt (G.out.trans g)
 replace hl:=hideIt (hl.out.keep g.keeps)
 replace hd:=hideIt (hd.out.keep g.keeps)
 replace SL:=hideIt (SL.out.grows g)
 replace SD:=hideIt (SD.out.grows g)
 clear g
 have kSL_0:u1.cell? ⟨w.heap.size,0,none⟩=some (.slice C cs.length nc):=SL.out.cell 0
 have fSL:=SL.out.frozen
 have lSL:w.heap.size<u1.heap.size:=SL.out.lt
 have kSD_0:u1.cell? ⟨w.heap.size+1,0,none⟩=some (.slice I d.insts.length ni):=SD.out.cell 0
 have kSD_1:u1.cell? ⟨w.heap.size+1,1,none⟩=some (.slice N d.nets.length nn):=SD.out.cell 1
 have kSD_2:u1.cell? ⟨w.heap.size+1,2,none⟩=some (.slice O d.ports.length no):=SD.out.cell 2
 have fSD:=SD.out.frozen
 have lSD:w.heap.size+1<u1.heap.size:=SD.out.lt
 cases hc:desB cs d
 ·have E2:=hideIt (show sinksV cs d n=[] from if_neg (by rw [hc];decide))
  clear hc
  go_wp2
  go_ret
  exact ⟨none,0,[],by rw [E2.out];rfl,by rw [E2.out];exact .inl ⟨rfl,rfl,rfl⟩,Own.nil,G.out⟩
 ·have DP:=hideIt (pB_iff.1 (show pB (DesP cs d)=true from hc))
  have E2:=hideIt (show sinksV cs d n=sinksL d n from if_pos hc)
  clear hc
  go_wp2_with fail
  clear kSL_0 fSL lSL kSD_0 kSD_1 kSD_2 fSD lSD
  refine (isNet_any n _ hd.out).mono ?_
  rintro e u2 ⟨rfl,g⟩
  replace G:=hideIt (G.out.trans g)
  replace hl:=hideIt (hl.out.keep g.keeps)
  replace hd:=hideIt (hd.out.keep g.keeps)
  replace SL:=hideIt (SL.out.grows g)
  replace SD:=hideIt (SD.out.grows g)
  clear g
  have kSL_0:u2.cell? ⟨w.heap.size,0,none⟩=some (.slice C cs.length nc):=SL.out.cell 0
  have fSL:=SL.out.frozen
  have lSL:w.heap.size<u2.heap.size:=SL.out.lt
  have kSD_0:u2.cell? ⟨w.heap.size+1,0,none⟩=some (.slice I d.insts.length ni):=SD.out.cell 0
  have kSD_1:u2.cell? ⟨w.heap.size+1,1,none⟩=some (.slice N d.nets.length nn):=SD.out.cell 1
  have kSD_2:u2.cell? ⟨w.heap.size+1,2,none⟩=some (.slice O d.ports.length no):=SD.out.cell 2
  have fSD:=SD.out.frozen
  have lSD:w.heap.size+1<u2.heap.size:=SD.out.lt
  cases hn:netIn d n
  ·have E3:=hideIt (E2.out.trans (snk_out DP.out hn))
   clear hn
   go_wp2
   go_ret
   exact ⟨none,0,[],by rw [E3.out];rfl,by rw [E3.out];exact .inl ⟨rfl,rfl,rfl⟩,Own.nil,G.out⟩
  clear hn
  have GS:=hideIt G.out.size
  go_wp2_with fail
  clear kSL_0 fSL lSL kSD_0 kSD_1 kSD_2 fSD lSD
  refine (iSinks_in n _ hd.out DP.out).mono ?_
  rintro e u3 ⟨A2,c2,bs,rfl,ho,how,g⟩
  replace G:=hideIt (G.out.trans g)
  replace hl:=hideIt (hl.out.keep g.keeps)
  replace hd:=hideIt (hd.out.keep g.keeps)
  replace SL:=hideIt (SL.out.grows g)
  replace SD:=hideIt (SD.out.grows g)
  have HO:=hideIt ho
  have HW:=hideIt how
  clear ho how
  clear g
  have kSL_0:u3.cell? ⟨w.heap.size,0,none⟩=some (.slice C cs.length nc):=SL.out.cell 0
  have fSL:=SL.out.frozen
  have lSL:w.heap.size<u3.heap.size:=SL.out.lt
  have kSD_0:u3.cell? ⟨w.heap.size+1,0,none⟩=some (.slice I d.insts.length ni):=SD.out.cell 0
  have kSD_1:u3.cell? ⟨w.heap.size+1,1,none⟩=some (.slice N d.nets.length nn):=SD.out.cell 1
  have kSD_2:u3.cell? ⟨w.heap.size+1,2,none⟩=some (.slice O d.ports.length no):=SD.out.cell 2
  have fSD:=SD.out.frozen
  have lSD:w.heap.size+1<u3.heap.size:=SD.out.lt
  go_wp2
  go_ret
  exact ⟨_,_,bs,ret_slice (show (sinksL d n).length=(sinksV cs d n).length by rw [E2.out]),by rw [E2.out];exact HO.out,HW.out.mono GS.out (Nat.le_refl _),G.out⟩

end Go.Proofs.YtlnpefiipdkafaaGreatDoor
/-
  Sinks of a net, both sides.
-/
namespace Go.Proofs.YtlnpefiipdkafaaGreatDoor
open Go.RowKit

theorem sinksV_len (l:List CellD) (d:DesignD) (n:Int):(sinksV l d n).length≤1048576:=by
 unfold sinksV
 split
 ·rename_i h
  have h1:=places_len (pB_iff.1 (show pB (DesP l d)=true from h))
  have h2:=snkL_len n (placesL d) (placesL d).length
  unfold sinksL
  omega
 ·simp
end Go.Proofs.YtlnpefiipdkafaaGreatDoor
