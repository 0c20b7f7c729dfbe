/-
  The program's IsBlock and code of a net.
-/
import Derived.Test.YtlnpefiipdkafaaGreatDoorGT
import Derived.Test.YtlnpefiipdkafaaGreatDoorGU
import Derived.Test.YtlnpefiipdkafaaGreatDoorHB
import Derived.Test.YtlnpefiipdkafaaGreatDoorHC
import Derived.Test.YtlnpefiipdkafaaGreatDoorGJ
import Derived.Test.YtlnpefiipdkafaaGreatDoorHK
import Derived.Test.YtlnpefiipdkafaaGreatDoorHM
import Derived.Test.YtlnpefiipdkafaaGreatDoorHU
import Derived.Test.YtlnpefiipdkafaaGreatDoorGO
import Derived.Test.YtlnpefiipdkafaaGreatDoorHZ
namespace Go.Proofs.YtlnpefiipdkafaaGreatDoor
open Go.RowKit

set_option maxHeartbeats 16000000 in
set_option maxRecDepth 10000 in
theorem iIsBlk_any {lv a b c wv:Value} {cs:List CellD} {d:DesignD} {ws:List WireD} (w:World) (hl:RCells w lv cs) (hd:RDesign w [a,b,c] d) (hw:RWires w wv ws) (hsl:SmCells cs) (hsd:SmDesign d) :
  Calls Tryz.prog 95 #[.agg #[lv,a,b,c,wv]] w fun e w'=>e=.returned (.bool (blkB cs d ws))∧Grows w w':=by
 have cl:=RList.len hl
 have wl:=RList.len hw
 obtain ⟨C,nc,rfl⟩:∃(D:Option Addr) (q:Nat),lv=.slice D cs.length q:=by obtain ⟨D,q,e,-⟩:=RList.form hl;exact ⟨D,q,e⟩
 obtain ⟨W,nw,rfl⟩:∃(D:Option Addr) (q:Nat),wv=.slice D ws.length q:=by obtain ⟨D,q,e,-⟩:=RList.form hw;exact ⟨D,q,e⟩
 have nl:=RList.len hd.parts.2.1
 obtain ⟨I,N,O,ni,nn,no,rfl,rfl,rfl⟩:=des_open hd
 have SA:=hideIt hsl
 have SM:=hideIt hsd
 clear hsl hsd
 obtain ⟨j0,hj,hy0,hy1,hy2⟩:=info_parts info_i64'
 have g:Grows w w:=Grows.refl w
 have G:Hid (Grows w (w.alloc (.cells #[.slice C cs.length nc,.slice I d.insts.length ni,.slice N d.nets.length nn,.slice O d.ports.length no,.slice W ws.length nw] 49))):=hideIt ((Grows.refl w).alloc _)
 clear g
 have SB:Hid (Blk (w.alloc (.cells #[.slice C cs.length nc,.slice I d.insts.length ni,.slice N d.nets.length nn,.slice O d.ports.length no,.slice W ws.length nw] 49)) (w.heap.size) 49 #[.slice C cs.length nc,.slice I d.insts.length ni,.slice N d.nets.length nn,.slice O d.ports.length no,.slice W ws.length nw]):=by
  have:=(Blk.new w 49 #[.slice C cs.length nc,.slice I d.insts.length ni,.slice N d.nets.length nn,.slice O d.ports.length no,.slice W ws.length nw]).grows (Grows.refl (w.alloc (.cells #[.slice C cs.length nc,.slice I d.insts.length ni,.slice N d.nets.length nn,.slice O d.ports.length no,.slice W ws.length nw] 49)))
  exact hideIt (by simpa using this)
 replace hl:=hideIt (hl.keep G.out.keeps)
 replace hd:=hideIt (hd.keep G.out.keeps)
 replace hw:=hideIt (hw.keep G.out.keeps)
 go_enter Tryz.func95,Tryz.ntmps95
 go_wp2_with fail
 refine (iIsDes_any _ hl.out hd.out SA.out SM.out).mono ?_
 rintro e u1 ⟨rfl,g⟩
 replace G:=hideIt (G.out.trans g)
 replace hl:=hideIt (hl.out.keep g.keeps)
 replace hd:=hideIt (hd.out.keep g.keeps)
 replace hw:=hideIt (hw.out.keep g.keeps)
 replace SB:=hideIt (SB.out.grows g)
 clear g
 have kSB_0:u1.cell? ⟨w.heap.size,0,none⟩=some (.slice C cs.length nc):=SB.out.cell 0
 have kSB_1:u1.cell? ⟨w.heap.size,1,none⟩=some (.slice I d.insts.length ni):=SB.out.cell 1
 have kSB_2:u1.cell? ⟨w.heap.size,2,none⟩=some (.slice N d.nets.length nn):=SB.out.cell 2
 have kSB_3:u1.cell? ⟨w.heap.size,3,none⟩=some (.slice O d.ports.length no):=SB.out.cell 3
 have kSB_4:u1.cell? ⟨w.heap.size,4,none⟩=some (.slice W ws.length nw):=SB.out.cell 4
 have fSB:=SB.out.frozen
 have lSB:w.heap.size<u1.heap.size:=SB.out.lt
 cases hc:desB cs d
 ·have E2:=hideIt (show blkB cs d ws=false from pB_false fun h=>by have h2:=pB_true h.des;rw [show pB (DesP cs d)=false from hc] at h2;cases h2)
  clear hc
  go_wp2
  go_ret
  exact ⟨ret_bool E2.out.symm,G.out⟩
 ·have DP:=hideIt (pB_iff.1 (show pB (DesP cs d)=true from hc))
  clear hc
  by_cases hlen:ws.length=d.nets.length
  case neg =>
   have E2:=hideIt (show blkB cs d ws=false from pB_false fun h=>hlen h.len)
   have t1:((ws.length:Int) != (d.nets.length:Int))=true:=by rw [bne_iff_ne];omega
   clear hlen
   go_wp2
   go_ret
   exact ⟨ret_bool E2.out.symm,G.out⟩
  have t1:((ws.length:Int) != (d.nets.length:Int))=false:=by rw [bne_eq_false_iff_eq];omega
  have HLEN:=hideIt hlen
  have hle1:ws.length≤d.nets.length:=by omega
  have hle2:d.nets.length≤ws.length:=by omega
  have hnn:=DP.out.nn
  clear hlen
  have hmk:∀z:World,(Instr.makeSlice 39 (.int .i64 (ws.length:Int)) (.int .i64 (ws.length:Int))).run Tryz.prog z =
    .ok (.slice (some ⟨z.heap.size,0,none⟩) ws.length ws.length) (z.alloc (.cells (madeCells #[.int .i64 0] ws.length) 2)):=fun z=>by
   have h:=run_make (P:=Tryz.prog) z 39 2 j0 (.int .i64 0) Tryz.underlying39 hj hy0 .i64 .i64 (ws.length:Int) (ws.length:Int) (by omega) (Int.le_refl _) (by rw [hy2];omega) (by omega)
   simpa [hy1,Value.cells] using h
  have DR:=hideIt (Drv.start u1 2 ws.length)
  have GA:Hid (Grows u1 (u1.alloc (.cells (madeCells #[.int .i64 0] ws.length) 2))):=hideIt ((Grows.refl _).alloc _)
  have hdA:=hideIt (hd.out.keep GA.out.keeps)
  go_wp2_with fail
  refine (iPlaces_n _ hdA.out DP.out).mono ?_
  rintro e u9 ⟨v,rfl,rp,hnb,g⟩
  have pl:=places_len DP.out
  obtain ⟨A,m,rfl⟩:∃(D:Option Addr) (q:Nat),v=.slice D (placesL d).length q:=by obtain ⟨D,q,e,-⟩:=RList.form rp;exact ⟨D,q,e⟩
  have RP:=hideIt rp
  have NB:=hideIt hnb
  have G9:=hideIt (GA.out.trans g)
  have GG:=hideIt g
  have D9:=hideIt (DR.out.grows g)
  clear g rp hnb
  have B9:=hideIt (SB.out.grows G9.out)
  have kSB_4:u9.cell? ⟨w.heap.size,4,none⟩=some (.slice W ws.length nw):=B9.out.cell 4
  have lSB:=B9.out.lt
  go_wp2
  go_loopw [5,32] (fun _ z wr=>∃k:Nat,k≤(placesL d).length∧z=.int .i64 (k:Int)∧Hid (Drv wr u1.heap.size 2 ws.length (fun j=>(snkL (j:Int) (placesL d) k).length))∧Hid (Chg [u1.heap.size] u9 wr)) (fun _ z _=>(placesL d).length - (intOf z).toNat)
  case atStart=>exact ⟨0,Nat.zero_le _,rfl,hideIt (D9.out.same fun j _=>by simp [snkL]),hideIt (Chg.refl _ _)⟩
  case round =>
   obtain ⟨k,hk,rfl,hdr,hch⟩:=hrel
   by_cases hlt:k<(placesL d).length
   ·obtain ⟨p,hp⟩:∃p,(placesL d)[k]?=some p:=⟨_,List.getElem?_eq_getElem hlt⟩
    have hpn:=inB_true (show inB p.net 0 ((d.nets.length:Int) - 1)=true from (place_ok DP.out (List.mem_of_getElem? hp)).net)
    obtain ⟨m9,hm9⟩:∃m9:Nat,p.net=(m9:Int):=⟨p.net.toNat,by omega⟩
    obtain ⟨bi,oi,rfl,a0,a1,a2,a3⟩:=place_at RP.out hp
    have ne:bi≠u1.heap.size:=by have h1:=NB.out bi rfl;simp at h1;omega
    have q0:=hch.out.cell a0 (by simp [ne])
    have q1:=hch.out.cell a1 (by simp [ne])
    have q2:=hch.out.cell a2 (by simp [ne])
    have q3:=hch.out.cell a3 (by simp [ne])
    rw [hm9] at q2
    have hm:m9<ws.length:=by omega
    have HM9:=hideIt hm9
    have SS:=hideIt (fun j:Int=>snkL_succ (n:=j) hp)
    have l1:(k:Int)<((placesL d).length:Int):=by omega
    have l4:(0:Int)≤(k:Int):=by omega
    have l5:(0:Int)≤(m9:Int):=by omega
    have l6:(m9:Int)<(ws.length:Int):=by omega
    have sl:=snkL_len (m9:Int) (placesL d) k
    have dlt:=hdr.out.lt
    clear hp a0 a1 a2 a3 hpn hm9
    cases e2:p.drives
    ·rw [e2] at q3
     have HE:=hideIt e2
     clear e2
     have dj:=hdr.out.cell hm
     have fj:=hdr.out.frozen m9
     have ST:=hideIt (hdr.out.step hm (g:=fun j=>(snkL (j:Int) (placesL d) (k+1)).length) fun j=>by
      rw [SS.out,List.length_append]
      by_cases e:(m9:Int)=(j:Int)
      ·rw [if_pos (show snkAt (j:Int) p=true by unfold snkAt;simp [HM9.out,HE.out,e]),if_pos e];rfl
      ·rw [if_neg (show ¬snkAt (j:Int) p=true by unfold snkAt;simp [HM9.out,e]),if_neg e];rfl)
     clear hdr
     generalize (snkL (m9:Int) (placesL d) k).length=dv at *
     go_wp2
     go_roundw
     case rel=>exact ⟨k+1,by omega,by go_num,hideIt (ST.out.grows ((Grows.refl _).alloc _)),hideIt ((hch.out.setCell (by simp) _).alloc _)⟩
     case measure=>simp [intOf];omega
    ·rw [e2] at q3
     have HE:=hideIt e2
     clear e2
     have CA:=hideIt (hch.out.alloc (.cells #[.int .i64 p.inst,.int .i64 p.pin,.int .i64 (m9:Int),.bool true] 67))
     have DA:=hideIt (hdr.out.grows ((Grows.refl wr).alloc (.cells #[.int .i64 p.inst,.int .i64 p.pin,.int .i64 (m9:Int),.bool true] 67)))
     have ST:=hideIt (DA.out.same (g:=fun j=>(snkL (j:Int) (placesL d) (k+1)).length) fun j _=>by
      rw [SS.out,if_neg (show ¬snkAt (j:Int) p=true by unfold snkAt;simp [HE.out]),List.append_nil])
     clear hdr
     go_wp2
     go_roundw
     case rel=>exact ⟨k+1,by omega,by go_num,ST,CA⟩
     case measure=>simp [intOf];omega
   ·obtain rfl:k=(placesL d).length:=by omega
    obtain ⟨w3,ew3⟩:∃w3:World,w3=wr:=⟨_,rfl⟩
    subst ew3
    have DF:=hideIt (hdr.out.same (g:=fun j=>(sinksL d (j:Int)).length) fun j _=>rfl)
    have G3:=hideIt (show Grows u1 w3 from G9.out.chg hch.out (by simp))
    have B3:=hideIt (SB.out.grows G3.out)
    have HW:=hideIt (hw.out.keep G3.out.keeps)
    have kSB_4:w3.cell? ⟨w.heap.size,4,none⟩=some (.slice W ws.length nw):=B3.out.cell 4
    have lSB:=B3.out.lt
    have slb:∀j:Nat,(sinksL d (j:Int)).length≤78:=fun j=>by have:=snkL_len (j:Int) (placesL d) (placesL d).length;unfold sinksL;omega
    have SLB:=hideIt slb
    clear hdr hch hlt hk slb
    go_wp2
    clear kSB_4
    go_loopw [6,7,50] (fun _ _ z wr=>∃k:Nat,k≤ws.length∧z=.int .i64 (k:Int)∧Hid (∀(j:Nat) (y:WireD),j<k→ws[j]?=some y→wireB y ((sinksL d (j:Int)).length:Int)=true)∧Grows w3 wr) (fun _ _ z _=>ws.length - (intOf z).toNat)
    case atStart=>exact ⟨0,Nat.zero_le _,rfl,fun j y hj=>absurd hj (by omega),Grows.refl _⟩
    case round =>
     obtain ⟨k,hk,rfl,hco,hg⟩:=hrel
     have HG:=hideIt hg
     clear hg
     by_cases hlt:k<ws.length
     ·obtain ⟨x,hx⟩:∃x,ws[k]?=some x:=⟨_,List.getElem?_eq_getElem hlt⟩
      obtain ⟨bi,oi,A0,A1,A2,A3,m0,m1,m2,m3,rfl,q0,q1,q2,q3,hxr⟩:=wires_at (RWires.keep HW.out HG.out.keeps) hx
      have P1:=hideIt hx
      have l1:(k:Int)<(ws.length:Int):=by omega
      have l4:(0:Int)≤(k:Int):=by omega
      have dk:=hideIt ((DF.out.grows HG.out).cell hlt)
      have dlt:=(DF.out.grows HG.out).lt
      have HS:=hideIt (SLB.out k)
      have GX:Hid (Grows wr (wr.alloc (.cells #[.slice A0 x.parent.length m0,.slice A1 x.res.length m1,.slice A2 x.cap.length m2,.slice A3 x.sink.length m3] 56))):=hideIt ((Grows.refl _).alloc _)
      have HXR:=hideIt (hxr.keep GX.out.keeps)
      have XB:=hideIt (Blk.new wr 56 #[.slice A0 x.parent.length m0,.slice A1 x.res.length m1,.slice A2 x.cap.length m2,.slice A3 x.sink.length m3])
      clear hx hxr
      have K0:∀w',Grows (wr.alloc (.cells #[.slice A0 x.parent.length m0,.slice A1 x.res.length m1,.slice A2 x.cap.length m2,.slice A3 x.sink.length m3] 56)) w'→w'.cell? ⟨wr.heap.size,0,none⟩=some (.slice A0 x.parent.length m0)∧w'.cell? ⟨wr.heap.size,1,none⟩=some (.slice A1 x.res.length m1)∧w'.cell? ⟨wr.heap.size,2,none⟩=some (.slice A2 x.cap.length m2)∧w'.cell? ⟨wr.heap.size,3,none⟩=some (.slice A3 x.sink.length m3)∧w'.cell? ⟨u1.heap.size,k,none⟩=some (.int .i64 ((sinksL d (k:Int)).length:Int))∧Grows (wr.alloc (.cells #[.slice A0 x.parent.length m0,.slice A1 x.res.length m1,.slice A2 x.cap.length m2,.slice A3 x.sink.length m3] 56)) w':=fun w' G=>⟨G.keeps _ _ (XB.out.cell 0),G.keeps _ _ (XB.out.cell 1),G.keeps _ _ (XB.out.cell 2),G.keeps _ _ (XB.out.cell 3),G.keeps _ _ (GX.out.keeps _ _ dk.out),G⟩
      have HK:=hideIt K0
      clear K0
      have gg:Grows (wr.alloc (.cells #[.slice A0 x.parent.length m0,.slice A1 x.res.length m1,.slice A2 x.cap.length m2,.slice A3 x.sink.length m3] 56)) (wr.alloc (.cells #[.slice A0 x.parent.length m0,.slice A1 x.res.length m1,.slice A2 x.cap.length m2,.slice A3 x.sink.length m3] 56)):=Grows.refl _
      cases hb:wireB x ((sinksL d (k:Int)).length:Int)
      ·have HB:=hideIt hb
       clear hb
       go_wp2
       refine wp_region_held_drew (S:=(fun w'=>w'.cell? ⟨wr.heap.size,0,none⟩=some (.slice A0 x.parent.length m0)∧w'.cell? ⟨wr.heap.size,1,none⟩=some (.slice A1 x.res.length m1)∧w'.cell? ⟨wr.heap.size,2,none⟩=some (.slice A2 x.cap.length m2)∧w'.cell? ⟨wr.heap.size,3,none⟩=some (.slice A3 x.sink.length m3)∧w'.cell? ⟨u1.heap.size,k,none⟩=some (.int .i64 ((sinksL d (k:Int)).length:Int))∧Grows (wr.alloc (.cells #[.slice A0 x.parent.length m0,.slice A1 x.res.length m1,.slice A2 x.cap.length m2,.slice A3 x.sink.length m3] 56)) w')) (by kernel_rfl) ?_ (fun hh0=>?_)
       ·(try dsimp only);exact HK.out _ gk
       refine regTk 0 hh0 ?_
       refine regTk 1 hh0 ?_
       refine regTk 2 hh0 ?_
       refine regTk 3 hh0 ?_
       refine regTk 4 hh0 ?_
       refine regCall 5 (fun K hK=>?_)
       go_simp
       refine (iIsWire_any _ (HXR.out.keep (Grows.keeps gk))).mono ?_
       rintro e wx2 ⟨rfl,g⟩
       rw [HB.out]
       replace gg:=gg.gt g
       clear g
       (try go_wp2_with fail)
       refine hK.out _ _ ?_ (fun hh1=>?_)
       ·(try dsimp only);exact HK.out _ gk
       clear hK K hh0
       try simp only [Act.put,List.setIfInBounds_toArray,List.set_cons_zero,List.set_cons_succ]
       refine regTk 6 hh1 ?_
       refine wpAnyH_done (by kernel_rfl) ?_ _
       clear hh1 HK
       have E2:=hideIt (show blkB cs d ws=false from pB_false fun h=>by have h2:=h.wire k x P1.out;rw [HB.out] at h2;cases h2)
       go_wp2
       go_ret
       exact ⟨ret_bool E2.out.symm,(G.out.trans (G3.out.trans (HG.out.trans GX.out))).trans gg⟩
      ·have HB:=hideIt hb
       clear hb
       go_wp2
       refine wp_region_held_drew (S:=(fun w'=>w'.cell? ⟨wr.heap.size,0,none⟩=some (.slice A0 x.parent.length m0)∧w'.cell? ⟨wr.heap.size,1,none⟩=some (.slice A1 x.res.length m1)∧w'.cell? ⟨wr.heap.size,2,none⟩=some (.slice A2 x.cap.length m2)∧w'.cell? ⟨wr.heap.size,3,none⟩=some (.slice A3 x.sink.length m3)∧w'.cell? ⟨u1.heap.size,k,none⟩=some (.int .i64 ((sinksL d (k:Int)).length:Int))∧Grows (wr.alloc (.cells #[.slice A0 x.parent.length m0,.slice A1 x.res.length m1,.slice A2 x.cap.length m2,.slice A3 x.sink.length m3] 56)) w')) (by kernel_rfl) ?_ (fun hh0=>?_)
       ·(try dsimp only);exact HK.out _ gk
       refine regTk 0 hh0 ?_
       refine regTk 1 hh0 ?_
       refine regTk 2 hh0 ?_
       refine regTk 3 hh0 ?_
       refine regTk 4 hh0 ?_
       refine regCall 5 (fun K hK=>?_)
       go_simp
       refine (iIsWire_any _ (HXR.out.keep (Grows.keeps gk))).mono ?_
       rintro e wx2 ⟨rfl,g⟩
       rw [HB.out]
       replace gg:=gg.gt g
       clear g
       (try go_wp2_with fail)
       refine hK.out _ _ ?_ (fun hh1=>?_)
       ·(try dsimp only);exact HK.out _ gk
       clear hK K hh0
       try simp only [Act.put,List.setIfInBounds_toArray,List.set_cons_zero,List.set_cons_succ]
       refine regTk 6 hh1 ?_
       refine wpAnyH_done (by kernel_rfl) ?_ _
       clear hh1 HK
       have GN:=hideIt (HG.out.trans (GX.out.trans gg))
       clear gg
       go_wp2
       go_roundw
       case rel=>exact ⟨k+1,by omega,by go_num,fun j y hj hy=>by
        by_cases e:j=k
        ·subst e;rw [P1.out] at hy;injection hy with hy;rw [←hy];exact HB.out
        ·exact hco.out j y (by omega) hy,GN.out⟩
       case measure=>simp [intOf];omega
     ·obtain rfl:k=ws.length:=by omega
      have E2:=hideIt (show blkB cs d ws=true from pB_true ⟨DP.out,HLEN.out,fun j y hy=>hco.out j y ((List.getElem?_eq_some_iff.1 hy).1) hy⟩)
      clear hco
      go_wp2
      go_ret
      exact ⟨ret_bool E2.out.symm,G.out.trans (G3.out.trans HG.out)⟩

set_option maxHeartbeats 8000000 in
set_option maxRecDepth 10000 in
theorem iCode_any {lv a b c wv:Value} {cs:List CellD} {d:DesignD} {ws:List WireD} (n:Int) (w:World) (hl:RCells w lv cs) (hd:RDesign w [a,b,c] d) (hw:RWires w wv ws) (hsl:SmCells cs) (hsd:SmDesign d) :
  Calls Tryz.prog 59 #[.agg #[lv,a,b,c,wv],.int .i64 n] w fun e w'=>e=.returned (.int .i64 (codeV cs d ws n))∧Grows w w':=by
 have cl:=RList.len hl
 have wl:=RList.len hw
 obtain ⟨C,nc,rfl⟩:∃(D:Option Addr) (q:Nat),lv=.slice D cs.length q:=by obtain ⟨D,q,e,-⟩:=RList.form hl;exact ⟨D,q,e⟩
 obtain ⟨W,nw,rfl⟩:∃(D:Option Addr) (q:Nat),wv=.slice D ws.length q:=by obtain ⟨D,q,e,-⟩:=RList.form hw;exact ⟨D,q,e⟩
 have nl:=RList.len hd.parts.2.1
 obtain ⟨I,N,O,ni,nn,no,rfl,rfl,rfl⟩:=des_open hd
 have SA:=hideIt hsl
 have SM:=hideIt hsd
 clear hsl hsd
 have g:Grows w w:=Grows.refl w
 have G:Hid (Grows w (w.alloc (.cells #[.slice C cs.length nc,.slice I d.insts.length ni,.slice N d.nets.length nn,.slice O d.ports.length no,.slice W ws.length nw] 49))):=hideIt ((Grows.refl w).alloc _)
 clear g
 have SB:Hid (Blk (w.alloc (.cells #[.slice C cs.length nc,.slice I d.insts.length ni,.slice N d.nets.length nn,.slice O d.ports.length no,.slice W ws.length nw] 49)) (w.heap.size) 49 #[.slice C cs.length nc,.slice I d.insts.length ni,.slice N d.nets.length nn,.slice O d.ports.length no,.slice W ws.length nw]):=by
  have:=(Blk.new w 49 #[.slice C cs.length nc,.slice I d.insts.length ni,.slice N d.nets.length nn,.slice O d.ports.length no,.slice W ws.length nw]).grows (Grows.refl (w.alloc (.cells #[.slice C cs.length nc,.slice I d.insts.length ni,.slice N d.nets.length nn,.slice O d.ports.length no,.slice W ws.length nw] 49)))
  exact hideIt (by simpa using this)
 replace hl:=hideIt (hl.keep G.out.keeps)
 replace hd:=hideIt (hd.keep G.out.keeps)
 replace hw:=hideIt (hw.keep G.out.keeps)
 go_enter Tryz.func59,Tryz.ntmps59
 go_wp2_with fail
 refine (iIsBlk_any _ hl.out hd.out hw.out SA.out SM.out).mono ?_
 rintro e u1 ⟨rfl,g⟩
 replace G:=hideIt (G.out.trans g)
 replace hl:=hideIt (hl.out.keep g.keeps)
 replace hd:=hideIt (hd.out.keep g.keeps)
 replace hw:=hideIt (hw.out.keep g.keeps)
 replace SB:=hideIt (SB.out.grows g)
 clear g
 have kSB_0:u1.cell? ⟨w.heap.size,0,none⟩=some (.slice C cs.length nc):=SB.out.cell 0
 have kSB_1:u1.cell? ⟨w.heap.size,1,none⟩=some (.slice I d.insts.length ni):=SB.out.cell 1
 have kSB_2:u1.cell? ⟨w.heap.size,2,none⟩=some (.slice N d.nets.length nn):=SB.out.cell 2
 have kSB_3:u1.cell? ⟨w.heap.size,3,none⟩=some (.slice O d.ports.length no):=SB.out.cell 3
 have kSB_4:u1.cell? ⟨w.heap.size,4,none⟩=some (.slice W ws.length nw):=SB.out.cell 4
 have fSB:=SB.out.frozen
 have lSB:w.heap.size<u1.heap.size:=SB.out.lt
 cases hc:blkB cs d ws
 ·have E2:=hideIt (show codeV cs d ws n=1 from if_neg (by rw [hc];decide))
  clear hc
  go_wp2
  go_ret
  exact ⟨ret_int E2.out.symm,G.out⟩
 ·have BP:=hideIt (pB_iff.1 (show pB (BlkP cs d ws)=true from hc))
  have E2:=hideIt (show codeV cs d ws n=if inB n 0 ((ws.length:Int) - 1)=true then 0 else 2 from if_pos hc)
  clear hc
  have EL:=hideIt (show netIn d n=inB n 0 ((ws.length:Int) - 1) by unfold netIn;rw [BP.out.len])
  go_wp2_with fail
  clear kSB_0 kSB_1 kSB_2 kSB_3 kSB_4 fSB lSB
  refine (isNet_any n _ hd.out).mono ?_
  rintro e u2 ⟨rfl,g⟩
  replace G:=hideIt (G.out.trans g)
  replace hl:=hideIt (hl.out.keep g.keeps)
  replace hd:=hideIt (hd.out.keep g.keeps)
  replace hw:=hideIt (hw.out.keep g.keeps)
  replace SB:=hideIt (SB.out.grows g)
  clear g
  have kSB_0:u2.cell? ⟨w.heap.size,0,none⟩=some (.slice C cs.length nc):=SB.out.cell 0
  have kSB_1:u2.cell? ⟨w.heap.size,1,none⟩=some (.slice I d.insts.length ni):=SB.out.cell 1
  have kSB_2:u2.cell? ⟨w.heap.size,2,none⟩=some (.slice N d.nets.length nn):=SB.out.cell 2
  have kSB_3:u2.cell? ⟨w.heap.size,3,none⟩=some (.slice O d.ports.length no):=SB.out.cell 3
  have kSB_4:u2.cell? ⟨w.heap.size,4,none⟩=some (.slice W ws.length nw):=SB.out.cell 4
  have fSB:=SB.out.frozen
  have lSB:w.heap.size<u2.heap.size:=SB.out.lt
  rw [EL.out]
  cases hi:inB n 0 ((ws.length:Int) - 1)
  ·have E3:=hideIt (E2.out.trans (if_neg (by rw [hi];decide)))
   clear hi
   go_wp2
   go_ret
   exact ⟨ret_int E3.out.symm,G.out⟩
  ·have E3:=hideIt (E2.out.trans (if_pos hi))
   clear hi
   go_wp2
   go_ret
   exact ⟨ret_int E3.out.symm,G.out⟩

end Go.Proofs.YtlnpefiipdkafaaGreatDoor
/-
  The program's loads of a wire's nodes.
-/
namespace Go.Proofs.YtlnpefiipdkafaaGreatDoor
open Go.RowKit

set_option maxHeartbeats 16000000 in
set_option maxRecDepth 10000 in
theorem iLoads_any {lv a b c wv:Value} {cs:List CellD} {d:DesignD} {ws:List WireD} {x:WireD} (k:Nat) (w:World) (hl:RCells w lv cs) (hd:RDesign w [a,b,c] d) (hw:RWires w wv ws) (hb:BlkP cs d ws) (hx:ws[k]?=some x) :
  Calls Tryz.prog 60 #[.agg #[lv,a,b,c,wv],.int .i64 (k:Int)] w fun e w'=>∃(A:Option Addr) (c:Nat) (bs:List Nat),e=.returned (.slice A (loadsL cs d x (k:Int)).length c)∧OInts w' (.slice A (loadsL cs d x (k:Int)).length c) (loadsL cs d x (k:Int)) bs∧Own w.heap.size w'.heap.size bs∧Grows w w':=by
 have cl:=RList.len hl
 have wl:=RList.len hw
 obtain ⟨C,nc,rfl⟩:∃(D:Option Addr) (q:Nat),lv=.slice D cs.length q:=by obtain ⟨D,q,e,-⟩:=RList.form hl;exact ⟨D,q,e⟩
 obtain ⟨W,nw,rfl⟩:∃(D:Option Addr) (q:Nat),wv=.slice D ws.length q:=by obtain ⟨D,q,e,-⟩:=RList.form hw;exact ⟨D,q,e⟩
 have nl:=RList.len hd.parts.2.1
 obtain ⟨I,N,O,ni,nn,no,rfl,rfl,rfl⟩:=des_open hd
 have hT:=wireT_of (hb.wire k x hx)
 have n1:=hT.n1
 have n8:=hT.n8
 have ncap:=hT.cap
 have nres:=hT.res
 have nsink:=hT.sink
 have klt:k<ws.length:=(List.getElem?_eq_some_iff.1 hx).1
 have k1:(k:Int)<(ws.length:Int):=by omega
 have k2:(0:Int)≤(k:Int):=by omega
 obtain ⟨bw,ow,A0,A1,A2,A3,m0,m1,m2,m3,rfl,q0,q1,q2,q3,hxr⟩:=wires_at hw hx
 have lbw:=cell_lt q0
 simp at lbw
 have ncap1:x.cap.length≤x.parent.length:=by omega
 have ncap2:x.parent.length≤x.cap.length:=by omega
 have ns1:x.sink.length≤(sinksL d (k:Int)).length:=by omega
 have ns2:(sinksL d (k:Int)).length≤x.sink.length:=by omega
 have nr1:x.res.length≤x.parent.length:=by omega
 have nr2:x.parent.length≤x.res.length:=by omega
 have HT:=hideIt hT
 have DP:=hideIt hb.des
 have HX:=hideIt hx
 have mb:=sinksL_len hb.des (k:Int)
 clear hT hb hx hw ncap nres nsink
 have g:Grows w w:=Grows.refl w
 have G:Hid (Grows w ((w.alloc (.cells #[.slice C cs.length nc,.slice I d.insts.length ni,.slice N d.nets.length nn,.slice O d.ports.length no,.slice (some ⟨bw,ow,none⟩) ws.length nw] 49)).alloc (.cells #[.slice A0 x.parent.length m0,.slice A1 x.res.length m1,.slice A2 x.cap.length m2,.slice A3 x.sink.length m3] 56))):=hideIt (((Grows.refl w).alloc _).alloc _)
 clear g
 have SB:Hid (Blk ((w.alloc (.cells #[.slice C cs.length nc,.slice I d.insts.length ni,.slice N d.nets.length nn,.slice O d.ports.length no,.slice (some ⟨bw,ow,none⟩) ws.length nw] 49)).alloc (.cells #[.slice A0 x.parent.length m0,.slice A1 x.res.length m1,.slice A2 x.cap.length m2,.slice A3 x.sink.length m3] 56)) (w.heap.size) 49 #[.slice C cs.length nc,.slice I d.insts.length ni,.slice N d.nets.length nn,.slice O d.ports.length no,.slice (some ⟨bw,ow,none⟩) ws.length nw]):=by
  have:=(Blk.new w 49 #[.slice C cs.length nc,.slice I d.insts.length ni,.slice N d.nets.length nn,.slice O d.ports.length no,.slice (some ⟨bw,ow,none⟩) ws.length nw]).grows ((Grows.refl (w.alloc (.cells #[.slice C cs.length nc,.slice I d.insts.length ni,.slice N d.nets.length nn,.slice O d.ports.length no,.slice (some ⟨bw,ow,none⟩) ws.length nw] 49))).alloc (.cells #[.slice A0 x.parent.length m0,.slice A1 x.res.length m1,.slice A2 x.cap.length m2,.slice A3 x.sink.length m3] 56))
  exact hideIt (by simpa using this)
 have VW:Hid (Blk ((w.alloc (.cells #[.slice C cs.length nc,.slice I d.insts.length ni,.slice N d.nets.length nn,.slice O d.ports.length no,.slice (some ⟨bw,ow,none⟩) ws.length nw] 49)).alloc (.cells #[.slice A0 x.parent.length m0,.slice A1 x.res.length m1,.slice A2 x.cap.length m2,.slice A3 x.sink.length m3] 56)) (w.heap.size+1) 56 #[.slice A0 x.parent.length m0,.slice A1 x.res.length m1,.slice A2 x.cap.length m2,.slice A3 x.sink.length m3]):=by
  have:=(Blk.new (w.alloc (.cells #[.slice C cs.length nc,.slice I d.insts.length ni,.slice N d.nets.length nn,.slice O d.ports.length no,.slice (some ⟨bw,ow,none⟩) ws.length nw] 49)) 56 #[.slice A0 x.parent.length m0,.slice A1 x.res.length m1,.slice A2 x.cap.length m2,.slice A3 x.sink.length m3]).grows (Grows.refl ((w.alloc (.cells #[.slice C cs.length nc,.slice I d.insts.length ni,.slice N d.nets.length nn,.slice O d.ports.length no,.slice (some ⟨bw,ow,none⟩) ws.length nw] 49)).alloc (.cells #[.slice A0 x.parent.length m0,.slice A1 x.res.length m1,.slice A2 x.cap.length m2,.slice A3 x.sink.length m3] 56)))
  exact hideIt (by simpa using this)
 replace hl:=hideIt (hl.keep G.out.keeps)
 replace hd:=hideIt (hd.keep G.out.keeps)
 replace hxr:=hideIt (hxr.keep G.out.keeps)
 go_enter Tryz.func60,Tryz.ntmps60
 have GA:Hid (Grows ((w.alloc (.cells #[.slice C cs.length nc,.slice I d.insts.length ni,.slice N d.nets.length nn,.slice O d.ports.length no,.slice (some ⟨bw,ow,none⟩) ws.length nw] 49)).alloc (.cells #[.slice A0 x.parent.length m0,.slice A1 x.res.length m1,.slice A2 x.cap.length m2,.slice A3 x.sink.length m3] 56)) ((w.alloc (.cells #[.slice C cs.length nc,.slice I d.insts.length ni,.slice N d.nets.length nn,.slice O d.ports.length no,.slice (some ⟨bw,ow,none⟩) ws.length nw] 49)).alloc (.cells #[.slice A0 x.parent.length m0,.slice A1 x.res.length m1,.slice A2 x.cap.length m2,.slice A3 x.sink.length m3] 56))):=hideIt (Grows.refl _)
 have HL2:=hl
 have HD2:=hd
 have HX2:=hxr
 have VBsz:Hid ((((w.alloc (.cells #[.slice C cs.length nc,.slice I d.insts.length ni,.slice N d.nets.length nn,.slice O d.ports.length no,.slice (some ⟨bw,ow,none⟩) ws.length nw] 49)).alloc (.cells #[.slice A0 x.parent.length m0,.slice A1 x.res.length m1,.slice A2 x.cap.length m2,.slice A3 x.sink.length m3] 56))).heap.size=w.heap.size+1+1):=hideIt (by simp)
 go_wp2_with fail
 refine (clone_any _ hxr.out.open_.2.2.1 (by omega) (by unfold SmL;omega)).mono ?_
 rintro e u1 ⟨A9,c9,b9,rfl,o,ow9,g⟩
 replace G:=hideIt (G.out.trans g)
 replace GA:=hideIt (GA.out.trans g)
 replace hl:=hideIt (hl.out.keep g.keeps)
 replace hd:=hideIt (hd.out.keep g.keeps)
 replace hxr:=hideIt (hxr.out.keep g.keeps)
 replace SB:=hideIt (SB.out.grows g)
 replace VW:=hideIt (VW.out.grows g)
 obtain ⟨g0,rfl,-,hc1,hc2,rfl,har⟩:=arr_of o (by omega)
 have HA:=hideIt har
 have LG:Hid (w.heap.size+1+1≤g0):=hideIt (by have h:=(ow9.2 g0 (by simp)).1;rw [VBsz.out] at h;exact h)
 have gl0:=har.lt
 clear har o ow9
 clear g
 have kSB_0:u1.cell? ⟨w.heap.size,0,none⟩=some (.slice C cs.length nc):=SB.out.cell 0
 have kSB_1:u1.cell? ⟨w.heap.size,1,none⟩=some (.slice I d.insts.length ni):=SB.out.cell 1
 have kSB_2:u1.cell? ⟨w.heap.size,2,none⟩=some (.slice N d.nets.length nn):=SB.out.cell 2
 have kSB_3:u1.cell? ⟨w.heap.size,3,none⟩=some (.slice O d.ports.length no):=SB.out.cell 3
 have kSB_4:u1.cell? ⟨w.heap.size,4,none⟩=some (.slice (some ⟨bw,ow,none⟩) ws.length nw):=SB.out.cell 4
 have fSB:=SB.out.frozen
 have lSB:w.heap.size<u1.heap.size:=SB.out.lt
 have kVW_0:u1.cell? ⟨w.heap.size+1,0,none⟩=some (.slice A0 x.parent.length m0):=VW.out.cell 0
 have kVW_1:u1.cell? ⟨w.heap.size+1,1,none⟩=some (.slice A1 x.res.length m1):=VW.out.cell 1
 have kVW_2:u1.cell? ⟨w.heap.size+1,2,none⟩=some (.slice A2 x.cap.length m2):=VW.out.cell 2
 have kVW_3:u1.cell? ⟨w.heap.size+1,3,none⟩=some (.slice A3 x.sink.length m3):=VW.out.cell 3
 have fVW:=VW.out.frozen
 have lVW:w.heap.size+1<u1.heap.size:=VW.out.lt
 go_wp2_with fail
 clear kSB_0 kSB_1 kSB_2 kSB_3 kSB_4 fSB lSB kVW_0 kVW_1 kVW_2 kVW_3 fVW lVW
 refine (iPlaces_n _ hd.out DP.out).mono ?_
 rintro e u2 ⟨v,rfl,rp,hnb,g⟩
 replace G:=hideIt (G.out.trans g)
 replace GA:=hideIt (GA.out.trans g)
 replace hl:=hideIt (hl.out.keep g.keeps)
 replace hd:=hideIt (hd.out.keep g.keeps)
 replace hxr:=hideIt (hxr.out.keep g.keeps)
 replace SB:=hideIt (SB.out.grows g)
 replace VW:=hideIt (VW.out.grows g)
 have pl:=places_len DP.out
 obtain ⟨A,m,rfl⟩:∃(D:Option Addr) (q:Nat),v=.slice D (placesL d).length q:=by obtain ⟨D,q,e,-⟩:=RList.form rp;exact ⟨D,q,e⟩
 have NB:=hideIt hnb
 clear hnb
 replace HA:=hideIt (HA.out.grows g)
 have gl1:=HA.out.lt
 clear g
 have kSB_0:u2.cell? ⟨w.heap.size,0,none⟩=some (.slice C cs.length nc):=SB.out.cell 0
 have kSB_1:u2.cell? ⟨w.heap.size,1,none⟩=some (.slice I d.insts.length ni):=SB.out.cell 1
 have kSB_2:u2.cell? ⟨w.heap.size,2,none⟩=some (.slice N d.nets.length nn):=SB.out.cell 2
 have kSB_3:u2.cell? ⟨w.heap.size,3,none⟩=some (.slice O d.ports.length no):=SB.out.cell 3
 have kSB_4:u2.cell? ⟨w.heap.size,4,none⟩=some (.slice (some ⟨bw,ow,none⟩) ws.length nw):=SB.out.cell 4
 have fSB:=SB.out.frozen
 have lSB:w.heap.size<u2.heap.size:=SB.out.lt
 have kVW_0:u2.cell? ⟨w.heap.size+1,0,none⟩=some (.slice A0 x.parent.length m0):=VW.out.cell 0
 have kVW_1:u2.cell? ⟨w.heap.size+1,1,none⟩=some (.slice A1 x.res.length m1):=VW.out.cell 1
 have kVW_2:u2.cell? ⟨w.heap.size+1,2,none⟩=some (.slice A2 x.cap.length m2):=VW.out.cell 2
 have kVW_3:u2.cell? ⟨w.heap.size+1,3,none⟩=some (.slice A3 x.sink.length m3):=VW.out.cell 3
 have fVW:=VW.out.frozen
 have lVW:w.heap.size+1<u2.heap.size:=VW.out.lt
 replace rp:=hideIt rp
 go_wp2_with fail
 clear kSB_0 kSB_1 kSB_2 kSB_3 kSB_4 fSB lSB kVW_0 kVW_1 kVW_2 kVW_3 fVW lVW
 refine (iSinks_in (k:Int) _ hd.out DP.out).mono ?_
 rintro e u3 ⟨A8,c8,b8,rfl,ho,how,g⟩
 replace G:=hideIt (G.out.trans g)
 replace GA:=hideIt (GA.out.trans g)
 replace hl:=hideIt (hl.out.keep g.keeps)
 replace hd:=hideIt (hd.out.keep g.keeps)
 replace hxr:=hideIt (hxr.out.keep g.keeps)
 replace rp:=hideIt (rp.out.keep g.keeps)
 replace SB:=hideIt (SB.out.grows g)
 replace VW:=hideIt (VW.out.grows g)
 replace HA:=hideIt (HA.out.grows g)
 have HO8:=hideIt ho
 have HW8:=hideIt how
 have rs:=ho.reads
 clear ho how
 clear g
 have kSB_0:u3.cell? ⟨w.heap.size,0,none⟩=some (.slice C cs.length nc):=SB.out.cell 0
 have kSB_1:u3.cell? ⟨w.heap.size,1,none⟩=some (.slice I d.insts.length ni):=SB.out.cell 1
 have kSB_2:u3.cell? ⟨w.heap.size,2,none⟩=some (.slice N d.nets.length nn):=SB.out.cell 2
 have kSB_3:u3.cell? ⟨w.heap.size,3,none⟩=some (.slice O d.ports.length no):=SB.out.cell 3
 have kSB_4:u3.cell? ⟨w.heap.size,4,none⟩=some (.slice (some ⟨bw,ow,none⟩) ws.length nw):=SB.out.cell 4
 have fSB:=SB.out.frozen
 have lSB:w.heap.size<u3.heap.size:=SB.out.lt
 have kVW_0:u3.cell? ⟨w.heap.size+1,0,none⟩=some (.slice A0 x.parent.length m0):=VW.out.cell 0
 have kVW_1:u3.cell? ⟨w.heap.size+1,1,none⟩=some (.slice A1 x.res.length m1):=VW.out.cell 1
 have kVW_2:u3.cell? ⟨w.heap.size+1,2,none⟩=some (.slice A2 x.cap.length m2):=VW.out.cell 2
 have kVW_3:u3.cell? ⟨w.heap.size+1,3,none⟩=some (.slice A3 x.sink.length m3):=VW.out.cell 3
 have fVW:=VW.out.frozen
 have lVW:w.heap.size+1<u3.heap.size:=VW.out.lt
 replace rs:=hideIt rs
 go_wp2
 clear kSB_0 kSB_1 kSB_2 kSB_3 kSB_4 fSB lSB kVW_0 kVW_1 kVW_2 kVW_3 fVW lVW
 go_loopw [8,9,27] (fun _ _ z wr=>∃i:Nat,i≤(sinksL d (k:Int)).length∧z=.int .i64 (i:Int)∧Hid (Arr wr g0 (ldA x.cap x.sink (capsL cs d (k:Int)) i))∧Hid (Chg [g0] u3 wr)) (fun _ _ z _=>(sinksL d (k:Int)).length - (intOf z).toNat)
 case atStart=>exact ⟨0,Nat.zero_le _,rfl,HA,hideIt (Chg.refl _ _)⟩
 case round =>
  obtain ⟨i,hi,rfl,hac,hch⟩:=hrel
  have GW:=hideIt (GA.out.chg hch.out (fun q hq=>by simp at hq;subst hq;rw [VBsz.out];exact LG.out))
  have hal:=ldA_len x.cap x.sink (capsL cs d (k:Int)) i
  have hal1:(ldA x.cap x.sink (capsL cs d (k:Int)) i).length≤x.cap.length:=by omega
  have hal2:x.cap.length≤(ldA x.cap x.sink (capsL cs d (k:Int)) i).length:=by omega
  have BLG:=LG.out
  clear hal
  have TB:=hideIt (SB.out.chg hch.out (by simp;omega))
  have TV:=hideIt (VW.out.chg hch.out (by simp;omega))
  by_cases hlt:i<(sinksL d (k:Int)).length
  ·obtain ⟨s,hs⟩:∃s,(sinksL d (k:Int))[i]?=some s:=⟨_,List.getElem?_eq_getElem hlt⟩
   obtain ⟨j,p,rfl,hp,-⟩:=snkL_mem (List.mem_of_getElem? hs)
   obtain ⟨g8,rfl,-,-,-,rfl,ha8⟩:=arr_of HO8.out (by omega)
   have ne8:g8≠g0:=by have h:=(HW8.out.2 g8 (by simp)).1;omega
   have s0:=hch.out.cell (ha8.cell hlt) (by simp [ne8])
   rw [getD_of hs] at s0
   have OK:=hideIt (place_ok DP.out (List.mem_of_getElem? hp))
   obtain ⟨bp,op,rfl,a0,a1,a2,a3⟩:=place_at rp.out hp
   have nep:bp≠g0:=by have h:=NB.out bp rfl;omega
   have p0:=hch.out.cell a0 (by simp [nep])
   have p1:=hch.out.cell a1 (by simp [nep])
   have p2:=hch.out.cell a2 (by simp [nep])
   have p3:=hch.out.cell a3 (by simp [nep])
   have jlt:j<(placesL d).length:=(List.getElem?_eq_some_iff.1 hp).1
   obtain ⟨nd,hnd⟩:∃nd:Nat,x.sink.getD i 0=(nd:Int):=⟨(x.sink.getD i 0).toNat,by have:=(HT.out.sb i (by omega)).1;omega⟩
   have ndlt:nd<x.parent.length:=by have:=(HT.out.sb i (by omega)).2;rw [hnd] at this;simpa using this
   have hsk:x.sink[i]?=some (nd:Int):=by rw [←hnd];exact getD_at (by omega)
   obtain ⟨bk,ok,rfl,qk⟩:=ints_at (RInts.keep HX2.out.open_.2.2.2 GW.out.keeps) hsk
   have EA:Hid (ldA x.cap x.sink (capsL cs d (k:Int)) (i+1)=addAt (ldA x.cap x.sink (capsL cs d (k:Int)) i) nd (capOf cs d p)):=hideIt (by
    show addAt _ (x.sink.getD i 0).toNat ((capsL cs d (k:Int)).getD i 0)=_
    rw [hnd,Int.toNat_natCast,capsL_at hs (by rw [Int.toNat_natCast];exact hp)])
   have og:=hac.out.cell (j:=nd) (by omega)
   have of_:=hac.out.frozen
   have ol_:=hac.out.lt
   obtain ⟨b1,b2⟩:=ldA_bd DP.out HT.out hi
   have ob1:=b1 nd
   have ob2:=Int.le_trans (le_sum (j:=nd) b1) b2
   obtain ⟨cb1,cb2⟩:=capOf_bd DP.out OK.out
   have CELLA:=hideIt (fun (z:Int) (e:z=(ldA x.cap x.sink (capsL cs d (k:Int)) i).getD nd 0+capOf cs d p)=>hac.out.add (p:=nd) (v:=capOf cs d p) (by omega) e)
   obtain ⟨ov,eov⟩:∃ov,ov=(ldA x.cap x.sink (capsL cs d (k:Int)) i).getD nd 0:=⟨_,rfl⟩
   obtain ⟨cv,ecv⟩:∃cv,cv=capOf cs d p:=⟨_,rfl⟩
   rw [←eov] at og ob1 ob2
   rw [←ecv] at cb1 cb2
   have EOV:=hideIt eov
   have ECV:=hideIt ecv
   have wr1:IntKind.i64.wrap (ov+cv)=ov+cv:=Go.IntWalk.i64_in _ (by omega)
   have l1:(i:Int)<((sinksL d (k:Int)).length:Int):=by omega
   have l2:(0:Int)≤(i:Int):=by omega
   have l3:(i:Int)<(x.sink.length:Int):=by omega
   have l4:(nd:Int)<(x.cap.length:Int):=by omega
   have l5:(0:Int)≤(nd:Int):=by omega
   have l6:(j:Int)<((placesL d).length:Int):=by omega
   have l7:(0:Int)≤(j:Int):=by omega
   clear hs hp ha8 a0 a1 a2 a3 hsk hnd b1 b2 eov ecv
   have nek:bk<g0:=by
    obtain ⟨bk2,ok2,e2,qk2⟩:=ints_at HX2.out.open_.2.2.2 (show x.sink[i]?=some (x.sink.getD i 0) from getD_at (by omega))
    injection e2 with e2
    injection e2 with e3 e4
    subst e3
    have h:=cell_lt qk2
    rw [VBsz.out] at h
    simp at h
    omega
   have K0:∀w',Chg [g0] wr w'→w'.cell? ⟨w.heap.size,0,none⟩=some (.slice C cs.length nc)∧w'.cell? ⟨w.heap.size,1,none⟩=some (.slice I d.insts.length ni)∧w'.cell? ⟨w.heap.size,2,none⟩=some (.slice N d.nets.length nn)∧w'.cell? ⟨w.heap.size,3,none⟩=some (.slice O d.ports.length no)∧w'.cell? ⟨w.heap.size+1,3,none⟩=some (.slice (some ⟨bk,ok,none⟩) x.sink.length m3)∧w'.cell? ⟨bk,ok+i,none⟩=some (.int .i64 (nd:Int))∧w'.cell? ⟨g8,i,none⟩=some (.int .i64 (j:Int))∧w'.cell? ⟨bp,op+j * 4,none⟩=some (.int .i64 p.inst)∧w'.cell? ⟨bp,op+j * 4+1,none⟩=some (.int .i64 p.pin)∧w'.cell? ⟨bp,op+j * 4+2,none⟩=some (.int .i64 p.net)∧w'.cell? ⟨bp,op+j * 4+3,none⟩=some (.bool p.drives)∧Chg [g0] wr w':=fun w' G=>⟨G.cell (TB.out.cell 0) (by simp;omega),G.cell (TB.out.cell 1) (by simp;omega),G.cell (TB.out.cell 2) (by simp;omega),G.cell (TB.out.cell 3) (by simp;omega),G.cell (TV.out.cell 3) (by simp;omega),G.cell qk (by simp;omega),G.cell s0 (by simp [ne8]),G.cell p0 (by simp [nep]),G.cell p1 (by simp [nep]),G.cell p2 (by simp [nep]),G.cell p3 (by simp [nep]),G⟩
   have HK:=hideIt K0
   clear K0
   have gg:Chg [g0] wr wr:=Chg.refl _ _
   go_wp2
   refine wp_region_held_drew (S:=(fun w'=>w'.cell? ⟨w.heap.size,0,none⟩=some (.slice C cs.length nc)∧w'.cell? ⟨w.heap.size,1,none⟩=some (.slice I d.insts.length ni)∧w'.cell? ⟨w.heap.size,2,none⟩=some (.slice N d.nets.length nn)∧w'.cell? ⟨w.heap.size,3,none⟩=some (.slice O d.ports.length no)∧w'.cell? ⟨w.heap.size+1,3,none⟩=some (.slice (some ⟨bk,ok,none⟩) x.sink.length m3)∧w'.cell? ⟨bk,ok+i,none⟩=some (.int .i64 (nd:Int))∧w'.cell? ⟨g8,i,none⟩=some (.int .i64 (j:Int))∧w'.cell? ⟨bp,op+j * 4,none⟩=some (.int .i64 p.inst)∧w'.cell? ⟨bp,op+j * 4+1,none⟩=some (.int .i64 p.pin)∧w'.cell? ⟨bp,op+j * 4+2,none⟩=some (.int .i64 p.net)∧w'.cell? ⟨bp,op+j * 4+3,none⟩=some (.bool p.drives)∧Chg [g0] wr w')) (by kernel_rfl) ?_ (fun hh0=>?_)
   ·(try dsimp only);refine HK.out _ ?_;(repeat (first|exact gg|refine Chg.drew ?_|refine Chg.alloc ?_ _|refine Chg.setCell ?_ (by simp) _))
   refine regTk 0 hh0 ?_
   refine regTk 1 hh0 ?_
   refine regTk 2 hh0 ?_
   refine regTk 3 hh0 ?_
   refine regTk 4 hh0 ?_
   refine regTk 5 hh0 ?_
   refine regTk 6 hh0 ?_
   refine regTk 8 hh0 ?_
   refine regTk 9 hh0 ?_
   refine regTk 10 hh0 ?_
   refine regTk 11 hh0 ?_
   refine regTk 12 hh0 ?_
   refine regTk 13 hh0 ?_
   refine regTk 14 hh0 ?_
   refine regTk 15 hh0 ?_
   refine regCall2 7 16 (fun K hK=>?_) (fun K hK=>?_)
   ·go_simp
    (try go_wp2_with fail)
    refine hK.out _ _ ?_ (fun hh1=>?_)
    ·(try dsimp only);refine HK.out _ ?_;(repeat (first|exact gg|refine Chg.drew ?_|refine Chg.alloc ?_ _|refine Chg.setCell ?_ (by simp) _))
    clear hK K hh0
    try simp only [Act.put,List.setIfInBounds_toArray,List.set_cons_zero,List.set_cons_succ]
    refine regCall 16 (fun K hK=>?_)
    go_simp
    refine (iCap_any p _ (HL2.out.keep (Grows.keeps (GW.out.trans (by repeat (first|exact Grows.refl _|refine Grows.drew ?_))))) (HD2.out.keep (Grows.keeps (GW.out.trans (by repeat (first|exact Grows.refl _|refine Grows.drew ?_))))) OK.out).mono ?_
    rintro e wx ⟨rfl,g⟩
    rw [←ECV.out]
    have g2:Grows wr wx:=Grows.trans (by repeat (first|exact Grows.refl _|refine Grows.drew ?_)) g
    have ogx:=g2.keeps _ _ og
    have ofx:=(hac.out.grows g2).frozen
    have olx:=(hac.out.grows g2).lt
    replace gg:Chg [g0] wr wx:=Chg.trans (by (repeat (first|exact gg|refine Chg.drew ?_|refine Chg.alloc ?_ _|refine Chg.setCell ?_ (by simp) _))) (Chg.of_grows g)
    clear g
    (try go_wp2_with fail)
    refine hK.out _ _ ?_ (fun hh2=>?_)
    ·(try dsimp only);refine HK.out _ ?_;(repeat (first|exact gg|refine Chg.drew ?_|refine Chg.alloc ?_ _|refine Chg.setCell ?_ (by simp) _))
    clear hK K hh1
    try simp only [Act.put,List.setIfInBounds_toArray,List.set_cons_zero,List.set_cons_succ]
    refine regTk 17 hh2 ?_
    refine regTk 18 hh2 ?_
    refine regCall 19 (fun K hK=>?_)
    go_simp
    (try go_wp2_with fail)
    refine hK.out _ _ ?_ (fun hh3=>?_)
    ·(try dsimp only);refine HK.out _ ?_;(repeat (first|exact gg|refine Chg.drew ?_|refine Chg.alloc ?_ _|refine Chg.setCell ?_ (by simp) _))
    clear hK K hh2
    try simp only [Act.put,List.setIfInBounds_toArray,List.set_cons_zero,List.set_cons_succ]
    refine wpAnyH_done (by kernel_rfl) ?_ _
    clear hh3 HK
    go_wp2
    go_roundw
    case rel=>exact ⟨i+1,by omega,by go_num,hideIt (by rw [EA.out];exact (arr_chg hac.out g2 (by omega) (by rw [EOV.out,ECV.out]))),hideIt (Chg.trans hch.out (by repeat (first|exact gg|refine Chg.drew ?_|refine Chg.setCell ?_ (by simp) _)))⟩
    case measure=>simp [intOf];omega
   ·go_simp
    refine (iCap_any p _ (HL2.out.keep (Grows.keeps (GW.out.trans (by repeat (first|exact Grows.refl _|refine Grows.drew ?_))))) (HD2.out.keep (Grows.keeps (GW.out.trans (by repeat (first|exact Grows.refl _|refine Grows.drew ?_))))) OK.out).mono ?_
    rintro e wx ⟨rfl,g⟩
    rw [←ECV.out]
    have g2:Grows wr wx:=Grows.trans (by repeat (first|exact Grows.refl _|refine Grows.drew ?_)) g
    have ogx:=g2.keeps _ _ og
    have ofx:=(hac.out.grows g2).frozen
    have olx:=(hac.out.grows g2).lt
    replace gg:Chg [g0] wr wx:=Chg.trans (by (repeat (first|exact gg|refine Chg.drew ?_|refine Chg.alloc ?_ _|refine Chg.setCell ?_ (by simp) _))) (Chg.of_grows g)
    clear g
    (try go_wp2_with fail)
    refine hK.out _ _ ?_ (fun hh1=>?_)
    ·(try dsimp only);refine HK.out _ ?_;(repeat (first|exact gg|refine Chg.drew ?_|refine Chg.alloc ?_ _|refine Chg.setCell ?_ (by simp) _))
    clear hK K hh0
    try simp only [Act.put,List.setIfInBounds_toArray,List.set_cons_zero,List.set_cons_succ]
    refine regCall 7 (fun K hK=>?_)
    go_simp
    (try go_wp2_with fail)
    refine hK.out _ _ ?_ (fun hh2=>?_)
    ·(try dsimp only);refine HK.out _ ?_;(repeat (first|exact gg|refine Chg.drew ?_|refine Chg.alloc ?_ _|refine Chg.setCell ?_ (by simp) _))
    clear hK K hh1
    try simp only [Act.put,List.setIfInBounds_toArray,List.set_cons_zero,List.set_cons_succ]
    refine regTk 17 hh2 ?_
    refine regTk 18 hh2 ?_
    refine regCall 19 (fun K hK=>?_)
    go_simp
    (try go_wp2_with fail)
    refine hK.out _ _ ?_ (fun hh3=>?_)
    ·(try dsimp only);refine HK.out _ ?_;(repeat (first|exact gg|refine Chg.drew ?_|refine Chg.alloc ?_ _|refine Chg.setCell ?_ (by simp) _))
    clear hK K hh2
    try simp only [Act.put,List.setIfInBounds_toArray,List.set_cons_zero,List.set_cons_succ]
    refine wpAnyH_done (by kernel_rfl) ?_ _
    clear hh3 HK
    go_wp2
    go_roundw
    case rel=>exact ⟨i+1,by omega,by go_num,hideIt (by rw [EA.out];exact (arr_chg hac.out g2 (by omega) (by rw [EOV.out,ECV.out]))),hideIt (Chg.trans hch.out (by repeat (first|exact gg|refine Chg.drew ?_|refine Chg.setCell ?_ (by simp) _)))⟩
    case measure=>simp [intOf];omega
  ·obtain rfl:i=(sinksL d (k:Int)).length:=by omega
   obtain ⟨w3,ew3⟩:∃w3:World,w3=wr:=⟨_,rfl⟩
   subst ew3
   clear hi hlt
   have l1:(x.cap.length:Int) - 1=((x.cap.length - 1:Nat):Int):=by omega
   go_wp2
   clear l1
   go_loopw [10] (fun z wr=>∃(j i:Nat),i+j+1=x.cap.length∧z=.int .i64 (i:Int)∧Hid (Arr wr g0 (ldB x.parent (ldA x.cap x.sink (capsL cs d (k:Int)) (sinksL d (k:Int)).length) j))∧Hid (Chg [g0] w3 wr)) (fun z _=>(intOf z).toNat)
   case atStart=>exact ⟨0,x.cap.length - 1,by omega,rfl,hac,hideIt (Chg.refl _ _)⟩
   case round =>
    obtain ⟨j,i,hij,rfl,hac2,hch2⟩:=hrel
    have hll:=ldB_len x.parent (ldA x.cap x.sink (capsL cs d (k:Int)) (sinksL d (k:Int)).length) j
    have hl2:=ldA_len x.cap x.sink (capsL cs d (k:Int)) (sinksL d (k:Int)).length
    have lb1:(ldB x.parent (ldA x.cap x.sink (capsL cs d (k:Int)) (sinksL d (k:Int)).length) j).length≤x.cap.length:=by omega
    have lb2:x.cap.length≤(ldB x.parent (ldA x.cap x.sink (capsL cs d (k:Int)) (sinksL d (k:Int)).length) j).length:=by omega
    have lb3:i+j+1≤x.cap.length:=by omega
    have lb4:x.cap.length≤i+j+1:=by omega
    have GW2:=hideIt (GA.out.chg (hch.out.trans hch2.out) (fun q hq=>by simp at hq;subst hq;rw [VBsz.out];exact LG.out))
    have TV2:=hideIt (TV.out.chg hch2.out (by simp;omega))
    have LEN:=hideIt (show (ldA x.cap x.sink (capsL cs d (k:Int)) (sinksL d (k:Int)).length).length=x.cap.length from hl2)
    have HIJ:=hideIt hij
    clear hll hl2 hij
    by_cases hpos:0<i
    ·obtain ⟨pp,hpp⟩:∃pp:Nat,x.parent.getD i 0=(pp:Int):=⟨(x.parent.getD i 0).toNat,by have:=(HT.out.par i (by omega) (by omega)).1;omega⟩
     have pplt:pp<i:=by have:=(HT.out.par i (by omega) (by omega)).2;rw [hpp] at this;simpa using this
     have hpk:x.parent[i]?=some (pp:Int):=by rw [←hpp];exact getD_at (by omega)
     have nek:∀b o,A0=some ⟨b,o,none⟩→b<g0:=fun b o e=>by
      obtain ⟨bk2,ok2,e2,qk2⟩:=ints_at HX2.out.open_.1 hpk
      rw [e] at e2
      injection e2 with e2
      injection e2 with e3 e4
      subst e3
      have h:=cell_lt qk2
      rw [VBsz.out] at h
      simp at h
      omega
     obtain ⟨bk,ok,rfl,qk⟩:=ints_at (RInts.keep HX2.out.open_.1 GW2.out.keeps) hpk
     have nek2:=nek bk ok rfl
     have EB:Hid (ldB x.parent (ldA x.cap x.sink (capsL cs d (k:Int)) (sinksL d (k:Int)).length) (j+1)=addAt (ldB x.parent (ldA x.cap x.sink (capsL cs d (k:Int)) (sinksL d (k:Int)).length) j) pp ((ldB x.parent (ldA x.cap x.sink (capsL cs d (k:Int)) (sinksL d (k:Int)).length) j).getD i 0)):=hideIt (by
      have e:(ldA x.cap x.sink (capsL cs d (k:Int)) (sinksL d (k:Int)).length).length - 1 - j=i:=by rw [LEN.out];omega
      show addAt _ (x.parent.getD ((ldA x.cap x.sink (capsL cs d (k:Int)) (sinksL d (k:Int)).length).length - 1 - j) 0).toNat (List.getD _ ((ldA x.cap x.sink (capsL cs d (k:Int)) (sinksL d (k:Int)).length).length - 1 - j) 0)=_
      rw [e,hpp,Int.toNat_natCast])
     have og1:=hac2.out.cell (j:=pp) (by omega)
     have og2:=hac2.out.cell (j:=i) (by omega)
     have of_:=hac2.out.frozen
     have ol_:=hac2.out.lt
     obtain ⟨b1,b2⟩:=ldB_bd DP.out HT.out (j:=j) (by omega)
     have x1:=b1 pp
     have x2:=b2 pp
     have x3:=b1 i
     have x4:=b2 i
     have CELLB:=hideIt (fun (z:Int) (e:z=(ldB x.parent (ldA x.cap x.sink (capsL cs d (k:Int)) (sinksL d (k:Int)).length) j).getD pp 0+(ldB x.parent (ldA x.cap x.sink (capsL cs d (k:Int)) (sinksL d (k:Int)).length) j).getD i 0)=>hac2.out.add (p:=pp) (v:=(ldB x.parent (ldA x.cap x.sink (capsL cs d (k:Int)) (sinksL d (k:Int)).length) j).getD i 0) (by omega) e)
     obtain ⟨o1,eo1⟩:∃o1,o1=(ldB x.parent (ldA x.cap x.sink (capsL cs d (k:Int)) (sinksL d (k:Int)).length) j).getD pp 0:=⟨_,rfl⟩
     obtain ⟨o2,eo2⟩:∃o2,o2=(ldB x.parent (ldA x.cap x.sink (capsL cs d (k:Int)) (sinksL d (k:Int)).length) j).getD i 0:=⟨_,rfl⟩
     rw [←eo1] at og1 x1 x2
     rw [←eo2] at og2 x3 x4
     rw [←eo1,←eo2] at CELLB
     rw [←eo2] at EB
     have wr1:IntKind.i64.wrap (o1+o2)=o1+o2:=Go.IntWalk.i64_in _ (by omega)
     have l3:(i:Int)<(x.parent.length:Int):=by omega
     have l4:(pp:Int)<(x.cap.length:Int):=by omega
     have l5:(0:Int)≤(pp:Int):=by omega
     have l6:(i:Int)<(x.cap.length:Int):=by omega
     have l7:(0:Int)<(i:Int):=by omega
     have l8:(0:Int)≤(i:Int):=by omega
     clear hpk hpp nek b1 b2 eo1 eo2
     have K0:∀w',Chg [g0] wr w'→w'.cell? ⟨w.heap.size+1,0,none⟩=some (.slice (some ⟨bk,ok,none⟩) x.parent.length m0)∧w'.cell? ⟨bk,ok+i,none⟩=some (.int .i64 (pp:Int))∧Chg [g0] wr w':=fun w' G=>⟨G.cell (TV2.out.cell 0) (by simp;omega),G.cell qk (by simp;omega),G⟩
     have HK:=hideIt K0
     clear K0
     have gg:Chg [g0] wr wr:=Chg.refl _ _
     have lm1:(i:Int) - 1=((i - 1:Nat):Int):=by omega
     have LM:=hideIt lm1
     clear lm1
     go_wp2
     refine wp_region_held_drew (S:=(fun w'=>w'.cell? ⟨w.heap.size+1,0,none⟩=some (.slice (some ⟨bk,ok,none⟩) x.parent.length m0)∧w'.cell? ⟨bk,ok+i,none⟩=some (.int .i64 (pp:Int))∧Chg [g0] wr w')) (by kernel_rfl) ?_ (fun hh0=>?_)
     ·(try dsimp only);refine HK.out _ ?_;(repeat (first|exact gg|refine Chg.drew ?_|refine Chg.alloc ?_ _|refine Chg.setCell ?_ (by simp) _))
     refine regTk 0 hh0 ?_
     refine regTk 1 hh0 ?_
     refine regTk 2 hh0 ?_
     refine regTk 3 hh0 ?_
     refine regTk 4 hh0 ?_
     refine regTk 5 hh0 ?_
     refine regTk 6 hh0 ?_
     refine regTk 8 hh0 ?_
     refine regTk 9 hh0 ?_
     refine regTk 10 hh0 ?_
     refine regCall2 7 11 (fun K hK=>?_) (fun K hK=>?_)
     ·go_simp
      (try go_wp2_with fail)
      refine hK.out _ _ ?_ (fun hh1=>?_)
      ·(try dsimp only);refine HK.out _ ?_;(repeat (first|exact gg|refine Chg.drew ?_|refine Chg.alloc ?_ _|refine Chg.setCell ?_ (by simp) _))
      clear hK K hh0
      try simp only [Act.put,List.setIfInBounds_toArray,List.set_cons_zero,List.set_cons_succ]
      refine regCall 11 (fun K hK=>?_)
      go_simp
      (try go_wp2_with fail)
      refine hK.out _ _ ?_ (fun hh2=>?_)
      ·(try dsimp only);refine HK.out _ ?_;(repeat (first|exact gg|refine Chg.drew ?_|refine Chg.alloc ?_ _|refine Chg.setCell ?_ (by simp) _))
      clear hK K hh1
      try simp only [Act.put,List.setIfInBounds_toArray,List.set_cons_zero,List.set_cons_succ]
      refine regTk 12 hh2 ?_
      refine regTk 13 hh2 ?_
      refine regCall 14 (fun K hK=>?_)
      go_simp
      (try go_wp2_with fail)
      refine hK.out _ _ ?_ (fun hh3=>?_)
      ·(try dsimp only);refine HK.out _ ?_;(repeat (first|exact gg|refine Chg.drew ?_|refine Chg.alloc ?_ _|refine Chg.setCell ?_ (by simp) _))
      clear hK K hh2
      try simp only [Act.put,List.setIfInBounds_toArray,List.set_cons_zero,List.set_cons_succ]
      refine wpAnyH_done (by kernel_rfl) ?_ _
      clear hh3 HK
      go_wp2
      go_roundw
      case rel=>exact ⟨j+1,i - 1,by have:=HIJ.out;omega,by go_num,hideIt (by rw [EB.out];exact (CELLB.out _ rfl)),hideIt (Chg.trans hch2.out (by repeat (first|exact gg|refine Chg.drew ?_|refine Chg.setCell ?_ (by simp) _)))⟩
      case measure=>simp [intOf];omega
     ·go_simp
      (try go_wp2_with fail)
      refine hK.out _ _ ?_ (fun hh1=>?_)
      ·(try dsimp only);refine HK.out _ ?_;(repeat (first|exact gg|refine Chg.drew ?_|refine Chg.alloc ?_ _|refine Chg.setCell ?_ (by simp) _))
      clear hK K hh0
      try simp only [Act.put,List.setIfInBounds_toArray,List.set_cons_zero,List.set_cons_succ]
      refine regCall 7 (fun K hK=>?_)
      go_simp
      (try go_wp2_with fail)
      refine hK.out _ _ ?_ (fun hh2=>?_)
      ·(try dsimp only);refine HK.out _ ?_;(repeat (first|exact gg|refine Chg.drew ?_|refine Chg.alloc ?_ _|refine Chg.setCell ?_ (by simp) _))
      clear hK K hh1
      try simp only [Act.put,List.setIfInBounds_toArray,List.set_cons_zero,List.set_cons_succ]
      refine regTk 12 hh2 ?_
      refine regTk 13 hh2 ?_
      refine regCall 14 (fun K hK=>?_)
      go_simp
      (try go_wp2_with fail)
      refine hK.out _ _ ?_ (fun hh3=>?_)
      ·(try dsimp only);refine HK.out _ ?_;(repeat (first|exact gg|refine Chg.drew ?_|refine Chg.alloc ?_ _|refine Chg.setCell ?_ (by simp) _))
      clear hK K hh2
      try simp only [Act.put,List.setIfInBounds_toArray,List.set_cons_zero,List.set_cons_succ]
      refine wpAnyH_done (by kernel_rfl) ?_ _
      clear hh3 HK
      go_wp2
      go_roundw
      case rel=>exact ⟨j+1,i - 1,by have:=HIJ.out;omega,by go_num,hideIt (by rw [EB.out];exact (CELLB.out _ rfl)),hideIt (Chg.trans hch2.out (by repeat (first|exact gg|refine Chg.drew ?_|refine Chg.setCell ?_ (by simp) _)))⟩
      case measure=>simp [intOf];omega
    ·obtain rfl:i=0:=by omega
     have ej:j=x.cap.length - 1:=by omega
     subst ej
     have AR:=hideIt (show Arr wr g0 (loadsL cs d x (k:Int)) from hac2.out)
     have LL:=hideIt (loadsL_len (l:=cs) (d:=d) (n:=(k:Int)) (x:=x))
     have GE:=hideIt ((G.out.chg hch.out (by simp;omega)).chg hch2.out (by simp;omega))
     have ol_:=AR.out.lt
     go_wp2
     go_ret
     refine ⟨some ⟨g0,0,none⟩,c9,[g0],ret_slice (by rw [LL.out]),arr_own AR.out (by rw [LL.out];exact hc1) hc2,Own.one (by omega) ol_,GE.out⟩

end Go.Proofs.YtlnpefiipdkafaaGreatDoor
