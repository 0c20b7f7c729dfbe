/-
  Contract of the reference's IsDesign.
-/
import Derived.Test.YtlnpefiipdkafaaGreatDoorHA
import Derived.Test.YtlnpefiipdkafaaGreatDoorHF
import Derived.Test.YtlnpefiipdkafaaGreatDoorGG
import Derived.Laws.AppendOwn
import Derived.Test.YtlnpefiipdkafaaGreatDoorHE
import Derived.Test.YtlnpefiipdkafaaGreatDoorGJ
namespace Go.Proofs.YtlnpefiipdkafaaGreatDoor
open Go.RowKit
/-- an own array of counts -/
def Drv (wr:World) (B:Nat) (t:TypeId) (n:Nat) (f:Nat→Nat):Prop:=∃cs:Array Value,Blk wr B t cs∧cs.size=n∧∀j,j<n→cs[j]?=some (.int .i64 (f j:Int))
section
variable {wr:World} {B n:Nat} {t:TypeId} {f:Nat→Nat}
theorem Drv.lt (h:Drv wr B t n f):B<wr.heap.size:=by obtain ⟨cs,hb,-⟩:=h;exact hb.lt
theorem Drv.grows (h:Drv wr B t n f) {w':World} (g:Grows wr w'):Drv w' B t n f:=by
 obtain ⟨cs,hb,hs,hc⟩:=h
 exact ⟨cs,hb.grows g,hs,hc⟩
theorem Drv.cell (h:Drv wr B t n f) {j:Nat} (hj:j<n):wr.cell? ⟨B,j,none⟩=some (.int .i64 (f j:Int)):=by
 obtain ⟨cs,hb,hs,hc⟩:=h
 rw [hb.cell];exact hc j hj
theorem Drv.frozen (h:Drv wr B t n f) (j:Nat):wr.frozen? ⟨B,j,none⟩=false:=by
 obtain ⟨cs,hb,-⟩:=h
 exact hb.frozen j
theorem Drv.step (h:Drv wr B t n f) {j:Nat} (hj:j<n) {g:Nat→Nat} (hg:∀i,g i=f i+if (j:Int)=(i:Int) then 1 else 0):Drv (wr.setCell ⟨B,j,none⟩ (.int .i64 ((f j:Int)+1))) B t n g:=by
 obtain ⟨cs,hb,hs,hc⟩:=h
 refine ⟨_,hb.set_ j _,by simpa using hs,fun i hi=>?_⟩
 rw [Array.getElem?_setIfInBounds,hg]
 by_cases e:j=i
 ·subst e
  rw [if_pos rfl,if_pos (by omega),if_pos rfl];simp
 ·rw [if_neg e,if_neg (by omega)]
  exact hc i hi
theorem Drv.same (h:Drv wr B t n f) {g:Nat→Nat} (hg:∀i,i<n→g i=f i):Drv wr B t n g:=by
 obtain ⟨cs,hb,hs,hc⟩:=h
 exact ⟨cs,hb,hs,fun i hi=>by rw [hg i hi];exact hc i hi⟩
end
theorem Drv.start (w:World) (t:TypeId) (n:Nat):Drv (w.alloc (.cells (madeCells #[.int .i64 0] n) t)) w.heap.size t n (fun _=>0):=by
 refine ⟨_,Blk.new w t _,by simp [madeCells],fun j hj=>?_⟩
 simp [madeCells,hj,Nat.mod_one]
def inV (xs:List InstD) (k:Nat):List Value:=((xs.take k).map (·.name)).map (.string ·)
theorem inV_succ {xs:List InstD} {k:Nat} {x:InstD} (h:xs[k]?=some x):inV xs (k+1)=inV xs k++[.string x.name]:=by
 unfold inV
 rw [List.take_add_one,h]
 simp
def poV (xs:List PortD) (k:Nat):List Value:=((xs.take k).map (·.name)).map (.string ·)
theorem poV_succ {xs:List PortD} {k:Nat} {x:PortD} (h:xs[k]?=some x):poV xs (k+1)=poV xs k++[.string x.name]:=by
 unfold poV
 rw [List.take_add_one,h]
 simp
def drvF (d:DesignD) (k q:Nat) (j:Nat):Nat:=cntI (d.insts.take k) j+cntP (d.ports.take q) j
set_option maxHeartbeats 16000000 in
set_option maxRecDepth 10000 in
theorem sIsDes_any {vl a b c:Value} {cs:List CellD} {d:DesignD} (w:World) (hl:RCells w vl cs) (hd:RDesign w [a,b,c] d) :
  Calls Tryz.prog 10 #[.agg #[vl],.agg #[a,b,c]] w fun e w'=>e=.returned (.bool (desB cs d))∧Grows w w':=by
 obtain ⟨i0,hi,hz0,hz1,hz2⟩:=info_parts info_str
 obtain ⟨j0,hj,hy0,hy1,hy2⟩:=info_parts info_i64
 have HN2:=hideIt hd.parts.2.1
 have cl:=RList.len hl
 obtain ⟨C,nc,rfl⟩:∃(D:Option Addr) (nd:Nat),vl=.slice D cs.length nd:=by obtain ⟨D,c,e,-⟩:=RList.form hl;exact ⟨D,c,e⟩
 obtain ⟨h1,h2,h3⟩:=hd.parts
 have il:=RList.len h1
 have nl:=RList.len h2
 have ol:=RList.len h3
 obtain ⟨⟨I,ni,rfl⟩,⟨N,nn,rfl⟩,⟨O,no,rfl⟩⟩:(∃(A:Option Addr) (n:Nat),a=.slice A d.insts.length n)∧(∃(A:Option Addr) (n:Nat),b=.slice A d.nets.length n)∧(∃(A:Option Addr) (n:Nat),c=.slice A d.ports.length n) :=
  ⟨(by obtain ⟨A,c,e,-⟩:=RList.form h1;exact ⟨A,c,e⟩),(by obtain ⟨A,c,e,-⟩:=RList.form h2;exact ⟨A,c,e⟩),(by obtain ⟨A,c,e,-⟩:=RList.form h3;exact ⟨A,c,e⟩)⟩
 have g0:=((Grows.refl w).alloc (.cells #[.slice C cs.length nc] 26)).alloc (.cells #[.slice I d.insts.length ni,.slice N d.nets.length nn,.slice O d.ports.length no] 31)
 have S1:Hid (Blk ((w.alloc (.cells #[.slice C cs.length nc] 26)).alloc (.cells #[.slice I d.insts.length ni,.slice N d.nets.length nn,.slice O d.ports.length no] 31)) w.heap.size 26 #[.slice C cs.length nc]):=hideIt ((Blk.new w 26 #[.slice C cs.length nc]).grows ((Grows.refl _).alloc (.cells #[.slice I d.insts.length ni,.slice N d.nets.length nn,.slice O d.ports.length no] 31)))
 have S2:Hid (Blk ((w.alloc (.cells #[.slice C cs.length nc] 26)).alloc (.cells #[.slice I d.insts.length ni,.slice N d.nets.length nn,.slice O d.ports.length no] 31)) (w.heap.size+1) 31 #[.slice I d.insts.length ni,.slice N d.nets.length nn,.slice O d.ports.length no]):=by
  have:=Blk.new (w.alloc (.cells #[.slice C cs.length nc] 26)) 31 #[.slice I d.insts.length ni,.slice N d.nets.length nn,.slice O d.ports.length no]
  exact hideIt (by simpa using this)
 have HL:=hideIt (RCells.keep hl g0.keeps)
 have HI:=hideIt (RInsts.keep h1 g0.keeps)
 have HO:=hideIt (RPorts.keep h3 g0.keeps)
 have HD:=hideIt (hd.keep g0.keeps)
 have G:=hideIt g0
 clear hl hd h1 h2 h3 g0
 go_enter Tryz.func10,Tryz.ntmps10
 go_wp2_with fail
 refine (sIsLib_any _ HL.out).mono ?_
 rintro e w1 ⟨rfl,g1⟩
 have G1:=hideIt (G.out.trans g1)
 have T1:=hideIt (S1.out.grows g1)
 have T2:=hideIt (S2.out.grows g1)
 have HL1:=hideIt (RCells.keep HL.out g1.keeps)
 have HD1:=hideIt (RDesign.keep HD.out g1.keeps)
 have HB1:=hideIt g1
 clear g1
 have kl:w1.cell? ⟨w.heap.size,0,none⟩=some (.slice C cs.length nc):=T1.out.cell 0
 have klz:=T1.out.lt
 have kd0:w1.cell? ⟨w.heap.size+1,0,none⟩=some (.slice I d.insts.length ni):=T2.out.cell 0
 have kd1:w1.cell? ⟨w.heap.size+1,1,none⟩=some (.slice N d.nets.length nn):=T2.out.cell 1
 have kd2:w1.cell? ⟨w.heap.size+1,2,none⟩=some (.slice O d.ports.length no):=T2.out.cell 2
 have kdz:=T2.out.lt
 cases hlb:libB cs
 ·skip
  have EP:=hideIt (show desB cs d=false from pB_false fun h=>by have:=pB_true h.lib;unfold libB at hlb;rw [this] at hlb;cases hlb)
  clear hlb
  go_wp2
  go_ret
  exact ⟨ret_bool EP.out.symm,G1.out⟩
 have LP:=hideIt (pB_iff.1 hlb)
 clear hlb
 by_cases hni:d.insts.length≤14
 rotate_left
 ·have bni:decide ((14:Int)<(d.insts.length:Int))=true:=decide_eq_true (by omega)
  have EP:=hideIt (show desB cs d=false from pB_false fun h=>hni h.ni)
  go_wp2
  go_ret
  exact ⟨ret_bool EP.out.symm,G1.out⟩
 have bni:decide ((14:Int)<(d.insts.length:Int))=false:=decide_eq_false (by omega)
 by_cases hnn:d.nets.length≤30
 rotate_left
 ·have bnn:decide ((30:Int)<(d.nets.length:Int))=true:=decide_eq_true (by omega)
  have EP:=hideIt (show desB cs d=false from pB_false fun h=>hnn h.nn)
  go_wp2
  go_ret
  exact ⟨ret_bool EP.out.symm,G1.out⟩
 have bnn:decide ((30:Int)<(d.nets.length:Int))=false:=decide_eq_false (by omega)
 by_cases hnp:d.ports.length≤8
 rotate_left
 ·have bnp:decide ((8:Int)<(d.ports.length:Int))=true:=decide_eq_true (by omega)
  have EP:=hideIt (show desB cs d=false from pB_false fun h=>hnp h.np)
  go_wp2
  go_ret
  exact ⟨ret_bool EP.out.symm,G1.out⟩
 have bnp:decide ((8:Int)<(d.ports.length:Int))=false:=decide_eq_false (by omega)
 go_wp2_with fail
 refine (l05Parts_any _ HL1.out HD1.out).mono ?_
 rintro e w2 ⟨rfl,g2⟩
 have G2:=hideIt (G1.out.trans g2)
 have U1:=hideIt (T1.out.grows g2)
 have U2:=hideIt (T2.out.grows g2)
 have HB2:=hideIt (HB1.out.trans g2)
 clear g2 kl klz kd0 kd1 kd2 kdz
 have kd0:w2.cell? ⟨w.heap.size+1,0,none⟩=some (.slice I d.insts.length ni):=U2.out.cell 0
 have kd1:w2.cell? ⟨w.heap.size+1,1,none⟩=some (.slice N d.nets.length nn):=U2.out.cell 1
 have kd2:w2.cell? ⟨w.heap.size+1,2,none⟩=some (.slice O d.ports.length no):=U2.out.cell 2
 have kdz:=U2.out.lt
 cases hpp:pB (PartsP cs d)
 ·skip
  have EP:=hideIt (show desB cs d=false from pB_false fun h=>by have:=pB_true (p:=PartsP cs d) ⟨h.inst,h.port⟩;rw [this] at hpp;cases hpp)
  clear hpp
  go_wp2
  go_ret
  exact ⟨ret_bool EP.out.symm,G2.out⟩
 have PP:=hideIt (pB_iff.1 hpp)
 clear hpp
 have own0:Hid ((w2.alloc (.cells #[] 9)).ownsRow w2.heap.size 9 1 (.slice (some ⟨w2.heap.size,0,none⟩) 0 0) 0 []) :=
  hideIt ⟨rfl,.inr ⟨w2.heap.size,0,#[],rfl,Nat.le_refl _,Blk.new w2 _ _,Nat.le_refl _,Nat.zero_le _,rfl,rfl⟩⟩
 go_wp2
 go_loopw [5,6] (fun s i wr=>∃(nv:Value) (k:Nat),nv=s∧k≤d.insts.length∧i=.int .i64 (k:Int)∧Hid (wr.ownsRow w2.heap.size 9 1 nv k (inV d.insts k))∧Grows w2 wr) (fun _ i _=>d.insts.length - (intOf i).toNat)
 case atStart=>exact ⟨_,0,rfl,by omega,rfl,own0.out,(Grows.refl _).alloc _⟩
 case round =>
  obtain ⟨nv,k,rfl,hk,rfl,hown,hg⟩:=hrel
  have HG:=hideIt hg
  have V2:=hideIt (U2.out.grows hg)
  clear hg kd0 kd1 kd2 kdz
  have kd0:wr.cell? ⟨w.heap.size+1,0,none⟩=some (.slice I d.insts.length ni):=V2.out.cell 0
  have kd1:wr.cell? ⟨w.heap.size+1,1,none⟩=some (.slice N d.nets.length nn):=V2.out.cell 1
  have kd2:wr.cell? ⟨w.heap.size+1,2,none⟩=some (.slice O d.ports.length no):=V2.out.cell 2
  have kdz:=V2.out.lt
  by_cases hlt:k<d.insts.length
  ·obtain ⟨x,hx⟩:∃x,d.insts[k]?=some x:=⟨_,List.getElem?_eq_getElem hlt⟩
   obtain ⟨bi,oi,XN,xn,rfl,q0,-,-,-,-⟩:=inst_at (RInsts.keep HI.out (HB2.out.trans HG.out).keeps) hx
   have X1:=hideIt hx
   clear hx
   have own1:=hideIt (hown.out.alloc (.cells #[.string x.name] 9))
   have G3:=hideIt (HG.out.alloc (.cells #[.string x.name] 9))
   have nlt:Hid (∀q,nv.ownBlock=some q→w2.heap.size≤q∧q<wr.heap.size):=hideIt hown.out.lt
   go_wp2_with (at_builtin;refine wpList_append_own _ rfl _ _ 28 rfl w2.heap.size 9 i0 (.string .empty) 1 16 Tryz.underlying28 hi hz0 hz1 hz2 rfl (by decide) nv k (inV d.insts k) rfl own1.out ⟨wr.heap.size,0,none⟩ 1 1 [.string x.name] rfl ?c1 ?c2 ?c3 ?c4 ?c5 ?c6 ?_)
   case c1=>simp
   case c2 =>
    intro j u hj
    match j,hj with
    | 0,hj=>simp at hj;subst hj;simp [Addr.add]
   case c3=>intro u hu;simp at hu;subst hu;rfl
   case c4=>unfold maxLen;omega
   case c5=>omega
   case c6=>exact G3.out.size
   intro v' w3 hown2 hgrow hnil
   have G4:=hideIt (G3.out.grown hgrow (fun q e=>(nlt.out q e).1))
   have OW:=hideIt (show w3.ownsRow w2.heap.size 9 1 v' (k+1) (inV d.insts (k+1)) by rw [inV_succ X1.out];exact hown2)
   clear hown2 hgrow hnil own1 q0
   go_wp2
   go_roundw
   case rel=>exact ⟨_,k+1,rfl,by omega,by go_num,OW.out,G4.out⟩
   case measure=>simp [intOf];omega
  ·obtain rfl:k=d.insts.length:=by omega
   have RS1:Hid (RStrs wr nv (d.insts.map (·.name))):=hideIt (own_strs (n:=d.insts.length) (base:=w2.heap.size) (xs:=d.insts.map (·.name)) (by simp) (by have:=hown.out;unfold inV at this;rw [List.take_length] at this;exact this) (fun s hs=>by
    obtain ⟨p,hp,rfl⟩:=List.mem_map.1 hs
    obtain ⟨m,hm⟩:=List.getElem?_of_mem hp
    obtain ⟨_,_,_,_,-,-,-,-,-,hz⟩:=inst_at HI.out hm
    exact hz))
   obtain ⟨w3,ew3⟩:∃w3:World,w3=wr:=⟨_,rfl⟩
   subst ew3
   have own2:Hid ((w3.alloc (.cells #[] 9)).ownsRow w3.heap.size 9 1 (.slice (some ⟨w3.heap.size,0,none⟩) 0 0) 0 []) :=
    hideIt ⟨rfl,.inr ⟨w3.heap.size,0,#[],rfl,Nat.le_refl _,Blk.new w3 _ _,Nat.le_refl _,Nat.zero_le _,rfl,rfl⟩⟩
   clear hown own0
   go_wp2
   go_loopw [7,8] (fun s i wr=>∃(nv:Value) (k:Nat),nv=s∧k≤d.ports.length∧i=.int .i64 (k:Int)∧Hid (wr.ownsRow w3.heap.size 9 1 nv k (poV d.ports k))∧Grows w3 wr) (fun _ i _=>d.ports.length - (intOf i).toNat)
   case atStart=>exact ⟨_,0,rfl,by omega,rfl,own2.out,(Grows.refl _).alloc _⟩
   case round =>
    obtain ⟨nw,k,rfl,hk,rfl,hown,hg⟩:=hrel
    have HH:=hideIt hg
    have Y2:=hideIt (V2.out.grows hg)
    clear hg kd0 kd1 kd2 kdz
    have kd0:wr.cell? ⟨w.heap.size+1,0,none⟩=some (.slice I d.insts.length ni):=Y2.out.cell 0
    have kd1:wr.cell? ⟨w.heap.size+1,1,none⟩=some (.slice N d.nets.length nn):=Y2.out.cell 1
    have kd2:wr.cell? ⟨w.heap.size+1,2,none⟩=some (.slice O d.ports.length no):=Y2.out.cell 2
    have kdz:=Y2.out.lt
    by_cases hlt:k<d.ports.length
    ·obtain ⟨x,hx⟩:∃x,d.ports[k]?=some x:=⟨_,List.getElem?_eq_getElem hlt⟩
     obtain ⟨bi,oi,rfl,q0,-,-,-⟩:=port_at (RPorts.keep HO.out (HB2.out.trans (HG.out.trans HH.out)).keeps) hx
     have X1:=hideIt hx
     clear hx
     have own1:=hideIt (hown.out.alloc (.cells #[.string x.name] 9))
     have G3:=hideIt (HH.out.alloc (.cells #[.string x.name] 9))
     have nlt:Hid (∀q,nw.ownBlock=some q→w3.heap.size≤q∧q<wr.heap.size):=hideIt hown.out.lt
     go_wp2_with (at_builtin;refine wpList_append_own _ rfl _ _ 28 rfl w3.heap.size 9 i0 (.string .empty) 1 16 Tryz.underlying28 hi hz0 hz1 hz2 rfl (by decide) nw k (poV d.ports k) rfl own1.out ⟨wr.heap.size,0,none⟩ 1 1 [.string x.name] rfl ?c1 ?c2 ?c3 ?c4 ?c5 ?c6 ?_)
     case c1=>simp
     case c2 =>
      intro j u hj
      match j,hj with
      | 0,hj=>simp at hj;subst hj;simp [Addr.add]
     case c3=>intro u hu;simp at hu;subst hu;rfl
     case c4=>unfold maxLen;omega
     case c5=>omega
     case c6=>exact G3.out.size
     intro v' w4 hown2 hgrow hnil
     have G4:=hideIt (G3.out.grown hgrow (fun q e=>(nlt.out q e).1))
     have OW:=hideIt (show w4.ownsRow w3.heap.size 9 1 v' (k+1) (poV d.ports (k+1)) by rw [poV_succ X1.out];exact hown2)
     clear hown2 hgrow hnil own1 q0
     go_wp2
     go_roundw
     case rel=>exact ⟨_,k+1,rfl,by omega,by go_num,OW.out,G4.out⟩
     case measure=>simp [intOf];omega
    ·obtain rfl:k=d.ports.length:=by omega
     have RS2:Hid (RStrs wr nw (d.ports.map (·.name))):=hideIt (own_strs (n:=d.ports.length) (base:=w3.heap.size) (xs:=d.ports.map (·.name)) (by simp) (by have:=hown.out;unfold poV at this;rw [List.take_length] at this;exact this) (fun s hs=>by
      obtain ⟨p,hp,rfl⟩:=List.mem_map.1 hs
      obtain ⟨m,hm⟩:=List.getElem?_of_mem hp
      obtain ⟨_,_,-,-,-,-,hz⟩:=port_at HO.out hm
      exact hz))
     have RS1':=hideIt (RStrs.keep RS1.out HH.out.keeps)
     have HBX:=hideIt (HB2.out.trans (HG.out.trans HH.out))
     have RS3:=hideIt (RStrs.keep (RStrs.keep HN2.out G.out.keeps) HBX.out.keeps)
     have GZ:=hideIt (G.out.trans HBX.out)
     clear hown own2
     go_wp2_with fail
     refine (l05Names_any _ RS1'.out).mono ?_
     rintro e w5 ⟨rfl,g5⟩
     have G5:=hideIt (GZ.out.trans g5)
     have Z2:=hideIt (Y2.out.grows g5)
     have RS2':=hideIt (RStrs.keep RS2.out g5.keeps)
     have RS3':=hideIt (RStrs.keep RS3.out g5.keeps)
     have HB5:=hideIt (HBX.out.trans g5)
     clear g5 kd0 kd1 kd2 kdz
     have kd0:w5.cell? ⟨w.heap.size+1,0,none⟩=some (.slice I d.insts.length ni):=Z2.out.cell 0
     have kd1:w5.cell? ⟨w.heap.size+1,1,none⟩=some (.slice N d.nets.length nn):=Z2.out.cell 1
     have kd2:w5.cell? ⟨w.heap.size+1,2,none⟩=some (.slice O d.ports.length no):=Z2.out.cell 2
     have kdz:=Z2.out.lt
     cases e1:pB (NamesP (d.insts.map (·.name)))
     ·skip
      have EP:=hideIt (show desB cs d=false from pB_false fun h=>by have:=pB_true h.iname;rw [this] at e1;cases e1)
      clear e1
      go_wp2
      go_ret
      exact ⟨ret_bool EP.out.symm,G5.out⟩
     have N1:=hideIt (pB_iff.1 e1)
     clear e1
     go_wp2_with fail
     refine (l05Names_any _ RS2'.out).mono ?_
     rintro e w6 ⟨rfl,g6⟩
     have G6:=hideIt (G5.out.trans g6)
     have Z3:=hideIt (Z2.out.grows g6)
     have RS3'':=hideIt (RStrs.keep RS3'.out g6.keeps)
     have HB6:=hideIt (HB5.out.trans g6)
     clear g6 kd0 kd1 kd2 kdz
     have kd0:w6.cell? ⟨w.heap.size+1,0,none⟩=some (.slice I d.insts.length ni):=Z3.out.cell 0
     have kd1:w6.cell? ⟨w.heap.size+1,1,none⟩=some (.slice N d.nets.length nn):=Z3.out.cell 1
     have kd2:w6.cell? ⟨w.heap.size+1,2,none⟩=some (.slice O d.ports.length no):=Z3.out.cell 2
     have kdz:=Z3.out.lt
     cases e1:pB (NamesP (d.ports.map (·.name)))
     ·skip
      have EP:=hideIt (show desB cs d=false from pB_false fun h=>by have:=pB_true h.pname;rw [this] at e1;cases e1)
      clear e1
      go_wp2
      go_ret
      exact ⟨ret_bool EP.out.symm,G6.out⟩
     have N2:=hideIt (pB_iff.1 e1)
     clear e1
     go_wp2_with fail
     refine (l05Names_any _ RS3''.out).mono ?_
     rintro e w7 ⟨rfl,g7⟩
     have G7:=hideIt (G6.out.trans g7)
     have Z4:=hideIt (Z3.out.grows g7)
     have HB7:=hideIt (HB6.out.trans g7)
     clear g7 kd0 kd1 kd2 kdz
     have kd0:w7.cell? ⟨w.heap.size+1,0,none⟩=some (.slice I d.insts.length ni):=Z4.out.cell 0
     have kd1:w7.cell? ⟨w.heap.size+1,1,none⟩=some (.slice N d.nets.length nn):=Z4.out.cell 1
     have kd2:w7.cell? ⟨w.heap.size+1,2,none⟩=some (.slice O d.ports.length no):=Z4.out.cell 2
     have kdz:=Z4.out.lt
     cases e1:pB (NamesP d.nets)
     ·skip
      have EP:=hideIt (show desB cs d=false from pB_false fun h=>by have:=pB_true h.nname;rw [this] at e1;cases e1)
      clear e1
      go_wp2
      go_ret
      exact ⟨ret_bool EP.out.symm,G7.out⟩
     have N3:=hideIt (pB_iff.1 e1)
     clear e1
     have hmk:∀u:World,(Instr.makeSlice 39 (.int .i64 (d.nets.length:Int)) (.int .i64 (d.nets.length:Int))).run Tryz.prog u =
       .ok (.slice (some ⟨u.heap.size,0,none⟩) d.nets.length d.nets.length) (u.alloc (.cells (madeCells #[.int .i64 0] d.nets.length) 2)):=fun u=>by
      have h:=run_make (P:=Tryz.prog) u 39 2 j0 (.int .i64 0) Tryz.underlying39 hj hy0 .i64 .i64 (d.nets.length:Int) (d.nets.length:Int) (by omega) (Int.le_refl _) (by rw [hy2];omega) (by omega)
      simpa [hy1,Value.cells] using h
     have DR0:=hideIt (Drv.start w7 2 d.nets.length)
     go_wp2
     go_loopw [10,11] (fun i _ wr=>∃k:Nat,k≤d.insts.length∧i=.int .i64 (k:Int)∧Hid (Drv wr w7.heap.size 2 d.nets.length (drvF d k 0))∧Grows w7 wr) (fun i _ _=>d.insts.length - (intOf i).toNat)
     case atStart=>exact ⟨0,by omega,rfl,DR0.out.same fun i _=>by simp [drvF,cntI,cntP],(Grows.refl _).alloc _⟩
     case round =>
      obtain ⟨k,hk,rfl,hdr,hg⟩:=hrel
      have HJ:=hideIt hg
      have Z5:=hideIt (Z4.out.grows hg)
      clear hg kd0 kd1 kd2 kdz hmk
      have kd0:wr.cell? ⟨w.heap.size+1,0,none⟩=some (.slice I d.insts.length ni):=Z5.out.cell 0
      have kd1:wr.cell? ⟨w.heap.size+1,1,none⟩=some (.slice N d.nets.length nn):=Z5.out.cell 1
      have kd2:wr.cell? ⟨w.heap.size+1,2,none⟩=some (.slice O d.ports.length no):=Z5.out.cell 2
      have kdz:=Z5.out.lt
      by_cases hlt:k<d.insts.length
      ·obtain ⟨x,hx⟩:∃x,d.insts[k]?=some x:=⟨_,List.getElem?_eq_getElem hlt⟩
       obtain ⟨bi,oi,XN,xn,rfl,-,-,q2,hxn,-⟩:=inst_at (RInsts.keep HI.out (HB7.out.trans HJ.out).keeps) hx
       have OKX:=PP.out.1 k x hx
       have hlast:=(DesP.last LP.out OKX).1
       have CS:=hideIt (cntI_succ hx)
       obtain ⟨m,hm⟩:∃m,x.nets.length=m+1:=⟨x.nets.length - 1,by omega⟩
       obtain ⟨v,hv⟩:∃v,x.nets[m]?=some v:=⟨_,List.getElem?_eq_getElem (by omega)⟩
       have hvb:=List.all_eq_true.1 OKX.nets v (List.mem_of_getElem? hv)
       unfold netIn at hvb
       have hvb2:=inB_true hvb
       have LN:=hideIt (show lastNet x=v from lastNet_of (by rw [hm];simpa using hv))
       obtain ⟨bn,on,rfl,kv⟩:=ints_at hxn hv
       obtain ⟨j,rfl⟩:∃j:Nat,v=(j:Int):=⟨v.toNat,by omega⟩
       have hjl:j<d.nets.length:=by omega
       have hjl2:(j:Int)<(d.nets.length:Int):=by omega
       have XL:(x.nets.length:Int)≤9223372036854775807:=RList.len hxn
       rw [hm] at q2 XL
       have dj:=hdr.out.cell hjl
       have fj:=hdr.out.frozen j
       have db:=hdr.out.lt
       have cb:drvF d k 0 j≤100:=by unfold drvF;have:=cntI_le (d.insts.take k) j;have:=cntP_le (d.ports.take 0) j;simp at *;omega
       have ST:=hideIt (hdr.out.step hjl (g:=drvF d (k+1) 0) fun i=>by unfold drvF;rw [CS.out,LN.out];omega)
       clear hvb hvb2 hm hx hv hdr OKX hlast hxn
       generalize drvF d k 0 j=dv at *
       go_wp2
       go_roundw
       case rel=>exact ⟨k+1,by omega,by go_num,ST.out,HJ.out.setCell (Nat.le_refl _) _⟩
       case measure=>simp [intOf];omega
      ·obtain rfl:k=d.insts.length:=by omega
       obtain ⟨w8,ew8⟩:∃w8:World,w8=wr:=⟨_,rfl⟩
       subst ew8
       go_wp2
       go_loopw [12] (fun i wr=>∃q:Nat,q≤d.ports.length∧i=.int .i64 (q:Int)∧Hid (Drv wr w7.heap.size 2 d.nets.length (drvF d d.insts.length q))∧Grows w7 wr) (fun i _=>d.ports.length - (intOf i).toNat)
       case atStart=>exact ⟨0,by omega,rfl,hdr.out,HJ.out⟩
       case round =>
        obtain ⟨q,hq,rfl,hds,hg⟩:=hrel
        have HM:=hideIt hg
        have Z6:=hideIt (Z4.out.grows hg)
        clear hg kd0 kd1 kd2 kdz
        have kd0:wr.cell? ⟨w.heap.size+1,0,none⟩=some (.slice I d.insts.length ni):=Z6.out.cell 0
        have kd1:wr.cell? ⟨w.heap.size+1,1,none⟩=some (.slice N d.nets.length nn):=Z6.out.cell 1
        have kd2:wr.cell? ⟨w.heap.size+1,2,none⟩=some (.slice O d.ports.length no):=Z6.out.cell 2
        have kdz:=Z6.out.lt
        by_cases hlq:q<d.ports.length
        ·obtain ⟨p,hp⟩:∃p,d.ports[q]?=some p:=⟨_,List.getElem?_eq_getElem hlq⟩
         obtain ⟨bi,oi,rfl,-,q1,q2,-⟩:=port_at (RPorts.keep HO.out (HB7.out.trans HM.out).keeps) hp
         have OKP:=PP.out.2 q p hp
         have CS:=hideIt (cntP_succ hp)
         have hvb:=OKP.net
         unfold netIn at hvb
         have hvb2:=inB_true hvb
         by_cases hd1:p.dir=1
         ·obtain ⟨j,hj⟩:∃j:Nat,p.net=(j:Int):=⟨p.net.toNat,by omega⟩
          have hjl:j<d.nets.length:=by omega
          have hjl2:(j:Int)<(d.nets.length:Int):=by omega
          rw [hj] at q2
          have hd1':(p.dir==1)=true:=beq_iff_eq.2 hd1
          have dj:=hds.out.cell hjl
          have fj:=hds.out.frozen j
          have db:=hds.out.lt
          have cb:drvF d d.insts.length q j≤100:=by unfold drvF;have:=cntI_le (d.insts.take d.insts.length) j;have:=cntP_le (d.ports.take q) j;simp at *;omega
          have ST:=hideIt (hds.out.step hjl (g:=drvF d d.insts.length (q+1)) fun i=>by unfold drvF;rw [CS.out,hj];simp only [hd1,true_and];omega)
          clear hvb hvb2 hp OKP hds hd1 hj
          generalize drvF d d.insts.length q j=dv at *
          go_wp2
          go_roundw
          case rel=>exact ⟨q+1,by omega,by go_num,ST.out,HM.out.setCell (Nat.le_refl _) _⟩
          case measure=>simp [intOf];omega
         ·have hd1':(p.dir==1)=false:=beq_eq_false_iff_ne.2 hd1
          have ST:=hideIt (hds.out.same (g:=drvF d d.insts.length (q+1)) fun i _=>by unfold drvF;rw [CS.out];simp [hd1])
          clear hvb hvb2 hp OKP hds hd1
          go_wp2
          go_roundw
          case rel=>exact ⟨q+1,by omega,by go_num,ST.out,HM.out⟩
          case measure=>simp [intOf];omega
        ·obtain rfl:q=d.ports.length:=by omega
         have DF:=hideIt (hds.out.same (g:=fun j=>cntI d.insts j+cntP d.ports j) fun i _=>by unfold drvF;rw [List.take_length,List.take_length])
         have GE_:=hideIt (G7.out.trans HM.out)
         clear hds
         go_wp2
         clear kd0 kd1 kd2 kdz
         go_loop [13] (fun i=>∃j:Nat,j≤d.nets.length∧i=.int .i64 (j:Int)∧Hid (∀m,m<j→cntI d.insts m+cntP d.ports m=1)) (fun i=>d.nets.length - (intOf i).toNat)
         case atStart=>exact ⟨0,by omega,rfl,fun m hm=>absurd hm (by omega)⟩
         case round =>
          obtain ⟨j,hj,rfl,hdo⟩:=hrel
          by_cases hjl:j<d.nets.length
          ·have dj:=DF.out.cell hjl
           obtain ⟨dv,edv⟩:∃dv:Nat,cntI d.insts j+cntP d.ports j=dv:=⟨_,rfl⟩
           simp only [edv] at dj
           by_cases h1:dv=1
           ·have NX:Hid (∀m,m<j+1→cntI d.insts m+cntP d.ports m=1):=hideIt fun m hm=>by
             by_cases e:m=j
             ·subst e;rw [edv];exact h1
             ·exact hdo.out m (by omega)
            have h1':((dv:Int) != 1)=false:=by rw [bne_eq_false_iff_eq];omega
            clear h1 edv
            go_wp2
            go_round
            case rel=>exact ⟨j+1,by omega,by go_num,NX.out⟩
            case measure=>simp [intOf];omega
           ·have EP:=hideIt (show desB cs d=false from pB_false fun h=>h1 (by rw [←edv];exact h.drv j hjl))
            have h1':((dv:Int) != 1)=true:=by rw [bne_iff_ne];omega
            clear h1 edv
            go_wp2
            go_ret
            exact ⟨ret_bool EP.out.symm,GE_.out⟩
          ·obtain rfl:j=d.nets.length:=by omega
           have EP:=hideIt (show desB cs d=true from pB_true ⟨LP.out,hni,hnn,hnp,PP.out.1,PP.out.2,N1.out,N3.out,N2.out,fun m hm=>hdo.out m hm⟩)
           clear hdo
           go_wp2
           go_ret
           exact ⟨ret_bool EP.out.symm,GE_.out⟩
end Go.Proofs.YtlnpefiipdkafaaGreatDoor
/-
  Contracts of small methods of a design: whether a number is a net; lengths.
-/
namespace Go.Proofs.YtlnpefiipdkafaaGreatDoor
open Go.RowKit
theorem lenStr_any {v:Value} {xs:List ByteArray} {w0:World} (w:World) (h:RStrs w0 v xs) :
  Calls Tryz.prog 87 #[v] w fun e w'=>e=.returned (.int .i64 (xs.length:Int))∧Grows w w':=by
 have hl:=RList.len h
 obtain ⟨A,c,rfl,-,-,-⟩:=RList.form h
 clear h
 go_enter Tryz.func87,Tryz.ntmps87
 go_wp2
 go_ret
 exact ⟨rfl,Grows.refl _⟩
theorem lenCell_any {v:Value} {xs:List CellD} {w0:World} (w:World) (h:RCells w0 v xs) :
  Calls Tryz.prog 84 #[v] w fun e w'=>e=.returned (.int .i64 (xs.length:Int))∧Grows w w':=by
 have hl:=RList.len h
 obtain ⟨A,c,rfl,-,-,-⟩:=RList.form h
 clear h
 go_enter Tryz.func84,Tryz.ntmps84
 go_wp2
 go_ret
 exact ⟨rfl,Grows.refl _⟩
theorem within_g (n lo hi:Int) (w:World):Calls Tryz.prog 69 #[.int .i64 n,.int .i64 lo,.int .i64 hi] w fun e w'=>e=.returned (.bool (inB n lo hi))∧Grows w w' :=
 (within_any n lo hi w).mono fun _ _ ⟨he,hw⟩=>⟨he,by rw [←hw];exact Grows.refl _⟩
/-- a design's parts in visible shape -/
theorem des_open {w:World} {a b c:Value} {d:DesignD} (h:RDesign w [a,b,c] d):∃(I N O:Option Addr) (ni nn no:Nat),a=.slice I d.insts.length ni∧b=.slice N d.nets.length nn∧c=.slice O d.ports.length no:=by
 obtain ⟨h1,h2,h3⟩:=h.parts
 obtain ⟨I,ni,e1,-⟩:=RList.form h1
 obtain ⟨N,nn,e2,-⟩:=RList.form h2
 obtain ⟨O,no,e3,-⟩:=RList.form h3
 exact ⟨I,N,O,ni,nn,no,e1,e2,e3⟩
set_option maxHeartbeats 1000000 in
theorem isNet_any {a b c:Value} {d:DesignD} (n:Int) (w:World) (h:RDesign w [a,b,c] d) :
  Calls Tryz.prog 45 #[.agg #[a,b,c],.int .i64 n] w fun e w'=>e=.returned (.bool (netIn d n))∧Grows w w':=by
 have nl:=RList.len h.parts.2.1
 obtain ⟨I,N,O,ni,nn,no,rfl,rfl,rfl⟩:=des_open h
 have g0:=(Grows.refl w).alloc (.cells #[.slice I d.insts.length ni,.slice N d.nets.length nn,.slice O d.ports.length no] 31)
 have HN:=hideIt (RStrs.keep h.parts.2.1 g0.keeps)
 have G:=hideIt g0
 clear h g0
 go_enter Tryz.func45,Tryz.ntmps45
 go_wp2_with fail
 refine (lenStr_any _ HN.out).mono ?_
 rintro e w1 ⟨rfl,g1⟩
 have G1:=hideIt (G.out.trans g1)
 clear g1
 go_wp2_with (go_at_call 69;refine (within_any _ _ _ _).mono ?_;rintro e w' ⟨rfl,rfl⟩)
 go_ret
 exact ⟨rfl,G1.out⟩
end Go.Proofs.YtlnpefiipdkafaaGreatDoor
/-
  Contract of the program's test of an instance.
-/
namespace Go.Proofs.YtlnpefiipdkafaaGreatDoor
open Go.RowKit
noncomputable def instB (cs:List CellD) (d:DesignD) (x:InstD):Bool:=pB (InstOk cs d x)
theorem any_notN {d:DesignD} {ns:List Int}:(!(ns.any fun n=>!netIn d n))=ns.all (netIn d):=by
 induction ns with
 | nil=>rfl
 | cons a r ih=>simp only [List.any_cons,List.all_cons,Bool.not_or,Bool.not_not,ih]
set_option maxHeartbeats 1000000 in
theorem isInst1_any {d:DesignD} {a b c:Value} (n:Int) (g:Nat) (W:World) (h:RDesign W [a,b,c] d) (h0:W.cell? ⟨g,0,none⟩=some a) (h1:W.cell? ⟨g,1,none⟩=some b) (h2:W.cell? ⟨g,2,none⟩=some c) :
  Calls Tryz.prog 86 #[.int .i64 n,.pointer (some ⟨g,0,none⟩)] W fun e W'=>e=.returned (.bool (!netIn d n))∧Grows W W':=by
 have lb:=cell_lt h0
 simp at lb
 have H:=hideIt h
 clear h
 go_enter Tryz.func86,Tryz.ntmps86
 go_wp2_with fail
 refine (isNet_any n _ H.out).mono ?_
 rintro e w1 ⟨rfl,g1⟩
 have G1:=hideIt g1
 clear g1 h0 h1 h2
 go_wp2
 go_ret
 exact ⟨rfl,G1.out⟩
set_option maxHeartbeats 8000000 in
theorem isInst_any {vl a b c x0 x1 x2:Value} {cs:List CellD} {d:DesignD} {x:InstD} (w:World) (hl:RCells w vl cs) (hd:RDesign w [a,b,c] d) (hx:RInst w [x0,x1,x2] x) :
  Calls Tryz.prog 44 #[.agg #[a,b,c],.agg #[vl],.agg #[x0,x1,x2]] w fun e w'=>e=.returned (.bool (instB cs d x))∧Grows w w':=by
 have cl:=RList.len hl
 obtain ⟨C,nc,rfl⟩:∃(D:Option Addr) (nd:Nat),vl=.slice D cs.length nd:=by obtain ⟨D,c,e,-⟩:=RList.form hl;exact ⟨D,c,e⟩
 obtain ⟨I,N,O,ni,nn,no,rfl,rfl,rfl⟩:=des_open hd
 obtain ⟨rfl,rfl,hxn,-⟩:=hx.parts
 have xl:=RList.len hxn
 obtain ⟨XN,xn,rfl⟩:∃(D:Option Addr) (nd:Nat),x2=.slice D x.nets.length nd:=by obtain ⟨D,c,e,-⟩:=RList.form hxn;exact ⟨D,c,e⟩
 have g0:=(((Grows.refl w).alloc (.cells #[.slice I d.insts.length ni,.slice N d.nets.length nn,.slice O d.ports.length no] 31)).alloc (.cells #[.slice C cs.length nc] 26)).alloc (.cells #[.string x.name,.int .i64 x.cell,.slice XN x.nets.length xn] 72)
 have S1:Hid (Blk (((w.alloc (.cells #[.slice I d.insts.length ni,.slice N d.nets.length nn,.slice O d.ports.length no] 31)).alloc (.cells #[.slice C cs.length nc] 26)).alloc (.cells #[.string x.name,.int .i64 x.cell,.slice XN x.nets.length xn] 72)) w.heap.size 31 #[.slice I d.insts.length ni,.slice N d.nets.length nn,.slice O d.ports.length no]):=hideIt ((Blk.new w 31 #[.slice I d.insts.length ni,.slice N d.nets.length nn,.slice O d.ports.length no]).grows (((Grows.refl _).alloc (.cells #[.slice C cs.length nc] 26)).alloc (.cells #[.string x.name,.int .i64 x.cell,.slice XN x.nets.length xn] 72)))
 have S2:Hid (Blk (((w.alloc (.cells #[.slice I d.insts.length ni,.slice N d.nets.length nn,.slice O d.ports.length no] 31)).alloc (.cells #[.slice C cs.length nc] 26)).alloc (.cells #[.string x.name,.int .i64 x.cell,.slice XN x.nets.length xn] 72)) (w.heap.size+1) 26 #[.slice C cs.length nc]):=by
  have:=(Blk.new (w.alloc (.cells #[.slice I d.insts.length ni,.slice N d.nets.length nn,.slice O d.ports.length no] 31)) 26 #[.slice C cs.length nc]).grows ((Grows.refl _).alloc (.cells #[.string x.name,.int .i64 x.cell,.slice XN x.nets.length xn] 72))
  exact hideIt (by simpa using this)
 have S3:Hid (Blk (((w.alloc (.cells #[.slice I d.insts.length ni,.slice N d.nets.length nn,.slice O d.ports.length no] 31)).alloc (.cells #[.slice C cs.length nc] 26)).alloc (.cells #[.string x.name,.int .i64 x.cell,.slice XN x.nets.length xn] 72)) (w.heap.size+1+1) 72 #[.string x.name,.int .i64 x.cell,.slice XN x.nets.length xn]):=by
  have:=Blk.new ((w.alloc (.cells #[.slice I d.insts.length ni,.slice N d.nets.length nn,.slice O d.ports.length no] 31)).alloc (.cells #[.slice C cs.length nc] 26)) 72 #[.string x.name,.int .i64 x.cell,.slice XN x.nets.length xn]
  exact hideIt (by simpa using this)
 have HL:=hideIt (RCells.keep hl g0.keeps)
 have HD:=hideIt (hd.keep g0.keeps)
 have HXN:=hideIt (RInts.keep hxn g0.keeps)
 have G:=hideIt g0
 clear hl hd hx hxn g0
 have ew:IntKind.i64.wrap ((cs.length:Int) - 1)=(cs.length:Int) - 1:=IntWalk.i64_in _ (by omega)
 cases qc:inB x.cell 0 ((cs.length:Int) - 1)
 ·have EP:=hideIt (show instB cs d x=false from pB_false fun h=>by have:=h.cell;rw [qc] at this;cases this)
  have FC:=hideIt qc
  clear qc
  have K0:∀w',Grows (((w.alloc (.cells #[.slice I d.insts.length ni,.slice N d.nets.length nn,.slice O d.ports.length no] 31)).alloc (.cells #[.slice C cs.length nc] 26)).alloc (.cells #[.string x.name,.int .i64 x.cell,.slice XN x.nets.length xn] 72)) w'→w'.cell? ⟨w.heap.size,0,none⟩=some (.slice I d.insts.length ni)∧w'.cell? ⟨w.heap.size,1,none⟩=some (.slice N d.nets.length nn)∧w'.cell? ⟨w.heap.size,2,none⟩=some (.slice O d.ports.length no)∧w'.cell? ⟨w.heap.size+1,0,none⟩=some (.slice C cs.length nc)∧w'.cell? ⟨w.heap.size+1+1,0,none⟩=some (.string x.name)∧w'.cell? ⟨w.heap.size+1+1,1,none⟩=some (.int .i64 x.cell)∧w'.cell? ⟨w.heap.size+1+1,2,none⟩=some (.slice XN x.nets.length xn)∧Grows (((w.alloc (.cells #[.slice I d.insts.length ni,.slice N d.nets.length nn,.slice O d.ports.length no] 31)).alloc (.cells #[.slice C cs.length nc] 26)).alloc (.cells #[.string x.name,.int .i64 x.cell,.slice XN x.nets.length xn] 72)) w':=fun w' G=>⟨(G.cells.1 _ _ S1.out.lt).trans (S1.out.cell 0),(G.cells.1 _ _ S1.out.lt).trans (S1.out.cell 1),(G.cells.1 _ _ S1.out.lt).trans (S1.out.cell 2),(G.cells.1 _ _ S2.out.lt).trans (S2.out.cell 0),(G.cells.1 _ _ S3.out.lt).trans (S3.out.cell 0),(G.cells.1 _ _ S3.out.lt).trans (S3.out.cell 1),(G.cells.1 _ _ S3.out.lt).trans (S3.out.cell 2),G⟩
  have HK:=hideIt K0
  clear K0
  have gg:Grows (((w.alloc (.cells #[.slice I d.insts.length ni,.slice N d.nets.length nn,.slice O d.ports.length no] 31)).alloc (.cells #[.slice C cs.length nc] 26)).alloc (.cells #[.string x.name,.int .i64 x.cell,.slice XN x.nets.length xn] 72)) (((w.alloc (.cells #[.slice I d.insts.length ni,.slice N d.nets.length nn,.slice O d.ports.length no] 31)).alloc (.cells #[.slice C cs.length nc] 26)).alloc (.cells #[.string x.name,.int .i64 x.cell,.slice XN x.nets.length xn] 72)):=Grows.refl _
  go_enter Tryz.func44,Tryz.ntmps44
  go_wp2
  refine wp_region_held_drew (S:=(fun w'=>w'.cell? ⟨w.heap.size,0,none⟩=some (.slice I d.insts.length ni)∧w'.cell? ⟨w.heap.size,1,none⟩=some (.slice N d.nets.length nn)∧w'.cell? ⟨w.heap.size,2,none⟩=some (.slice O d.ports.length no)∧w'.cell? ⟨w.heap.size+1,0,none⟩=some (.slice C cs.length nc)∧w'.cell? ⟨w.heap.size+1+1,0,none⟩=some (.string x.name)∧w'.cell? ⟨w.heap.size+1+1,1,none⟩=some (.int .i64 x.cell)∧w'.cell? ⟨w.heap.size+1+1,2,none⟩=some (.slice XN x.nets.length xn)∧Grows (((w.alloc (.cells #[.slice I d.insts.length ni,.slice N d.nets.length nn,.slice O d.ports.length no] 31)).alloc (.cells #[.slice C cs.length nc] 26)).alloc (.cells #[.string x.name,.int .i64 x.cell,.slice XN x.nets.length xn] 72)) w')) (by kernel_rfl) ?_ (fun hh0=>?_)
  ·(try dsimp only);exact HK.out _ gk
  refine regTk 0 hh0 ?_
  refine regTk 1 hh0 ?_
  refine regTk 2 hh0 ?_
  refine regTk 3 hh0 ?_
  refine regCall 4 (fun K hK=>?_)
  go_simp
  refine (lenCell_any _ HL.out).mono ?_
  rintro e wx ⟨rfl,g⟩
  replace gg:=gg.gt g
  clear g
  (try go_wp2_with fail)
  refine hK.out _ _ ?_ (fun hh1=>?_)
  ·(try dsimp only);exact HK.out _ gk
  clear hK K hh0
  try simp only [Act.put,List.setIfInBounds_toArray,List.set_cons_zero,List.set_cons_succ]
  refine regTk 5 hh1 ?_
  refine regCall 6 (fun K hK=>?_)
  go_simp
  refine (within_g _ _ _ _).mono ?_
  rintro e wx ⟨rfl,g⟩
  rw [FC.out]
  replace gg:=gg.gt g
  clear g
  (try go_wp2_with fail)
  refine hK.out _ _ ?_ (fun hh2=>?_)
  ·(try dsimp only);exact HK.out _ gk
  clear hK K hh1
  try simp only [Act.put,List.setIfInBounds_toArray,List.set_cons_zero,List.set_cons_succ]
  refine regTk 7 hh2 ?_
  refine regSk 8 hh2 ?_
  refine regSk 9 hh2 ?_
  refine regSk 10 hh2 ?_
  refine regSk 11 hh2 ?_
  refine regSk 12 hh2 ?_
  refine regSk 13 hh2 ?_
  refine regSk 14 hh2 ?_
  refine regSk 15 hh2 ?_
  refine regSk 16 hh2 ?_
  refine regSk 17 hh2 ?_
  refine regSk 18 hh2 ?_
  refine regSk 19 hh2 ?_
  refine regTk 20 hh2 ?_
  refine regTk 21 hh2 ?_
  refine regSk 22 hh2 ?_
  refine regSk 23 hh2 ?_
  refine regSk 24 hh2 ?_
  refine regSk 25 hh2 ?_
  refine regSk 26 hh2 ?_
  refine regTk 27 hh2 ?_
  refine regTk 28 hh2 ?_
  refine wpAnyH_done (by kernel_rfl) ?_ _
  go_wp2
  go_ret
  exact ⟨ret_bool EP.out.symm,G.out.trans gk⟩
 have hb:=inB_true qc
 obtain ⟨ci,hci⟩:∃ci:Nat,x.cell=(ci:Int):=⟨x.cell.toNat,by omega⟩
 have hcl:ci<cs.length:=by omega
 obtain ⟨cc,hcc⟩:∃cc,cs[ci]?=some cc:=⟨_,List.getElem?_eq_getElem hcl⟩
 have i0:(0:Int)≤x.cell:=by omega
 have i1:x.cell<(cs.length:Int):=by omega
 have i2:x.cell.toNat=ci:=by omega
 obtain ⟨bl,ol_,PB,pm,eC,hpc,hpr⟩:=pins_at HL.out hcc
 subst eC
 have PL:=RList.len hpr
 have kp:=hideIt hpc
 have lbl:=hideIt (cell_lt kp.out)
 have CC:=hideIt hcc
 have FC:=hideIt qc
 clear hpc hpr hcc hb qc hci
 by_cases hpn:x.nets.length=cc.pins.length
 rotate_left
 ·have EP:=hideIt (show instB cs d x=false from pB_false fun h=>hpn (h.pins cc (by rw [i2];exact CC.out)))
  have hp1:((x.nets.length:Int)==(cc.pins.length:Int))=false:=by rw [beq_eq_false_iff_ne];omega
  clear hpn
  have K0:∀w',Grows (((w.alloc (.cells #[.slice I d.insts.length ni,.slice N d.nets.length nn,.slice O d.ports.length no] 31)).alloc (.cells #[.slice (some ⟨bl,ol_,none⟩) cs.length nc] 26)).alloc (.cells #[.string x.name,.int .i64 x.cell,.slice XN x.nets.length xn] 72)) w'→w'.cell? ⟨w.heap.size,0,none⟩=some (.slice I d.insts.length ni)∧w'.cell? ⟨w.heap.size,1,none⟩=some (.slice N d.nets.length nn)∧w'.cell? ⟨w.heap.size,2,none⟩=some (.slice O d.ports.length no)∧w'.cell? ⟨w.heap.size+1,0,none⟩=some (.slice (some ⟨bl,ol_,none⟩) cs.length nc)∧w'.cell? ⟨w.heap.size+1+1,0,none⟩=some (.string x.name)∧w'.cell? ⟨w.heap.size+1+1,1,none⟩=some (.int .i64 x.cell)∧w'.cell? ⟨w.heap.size+1+1,2,none⟩=some (.slice XN x.nets.length xn)∧w'.cell? ⟨bl,ol_+ci * 7+2,none⟩=some (.slice PB cc.pins.length pm)∧Grows (((w.alloc (.cells #[.slice I d.insts.length ni,.slice N d.nets.length nn,.slice O d.ports.length no] 31)).alloc (.cells #[.slice (some ⟨bl,ol_,none⟩) cs.length nc] 26)).alloc (.cells #[.string x.name,.int .i64 x.cell,.slice XN x.nets.length xn] 72)) w':=fun w' G=>⟨(G.cells.1 _ _ S1.out.lt).trans (S1.out.cell 0),(G.cells.1 _ _ S1.out.lt).trans (S1.out.cell 1),(G.cells.1 _ _ S1.out.lt).trans (S1.out.cell 2),(G.cells.1 _ _ S2.out.lt).trans (S2.out.cell 0),(G.cells.1 _ _ S3.out.lt).trans (S3.out.cell 0),(G.cells.1 _ _ S3.out.lt).trans (S3.out.cell 1),(G.cells.1 _ _ S3.out.lt).trans (S3.out.cell 2),(G.cells.1 _ _ (by have:=lbl.out;simp at this ⊢;omega)).trans kp.out,G⟩
  have HK:=hideIt K0
  clear K0
  have gg:Grows (((w.alloc (.cells #[.slice I d.insts.length ni,.slice N d.nets.length nn,.slice O d.ports.length no] 31)).alloc (.cells #[.slice (some ⟨bl,ol_,none⟩) cs.length nc] 26)).alloc (.cells #[.string x.name,.int .i64 x.cell,.slice XN x.nets.length xn] 72)) (((w.alloc (.cells #[.slice I d.insts.length ni,.slice N d.nets.length nn,.slice O d.ports.length no] 31)).alloc (.cells #[.slice (some ⟨bl,ol_,none⟩) cs.length nc] 26)).alloc (.cells #[.string x.name,.int .i64 x.cell,.slice XN x.nets.length xn] 72)):=Grows.refl _
  go_enter Tryz.func44,Tryz.ntmps44
  go_wp2
  refine wp_region_held_drew (S:=(fun w'=>w'.cell? ⟨w.heap.size,0,none⟩=some (.slice I d.insts.length ni)∧w'.cell? ⟨w.heap.size,1,none⟩=some (.slice N d.nets.length nn)∧w'.cell? ⟨w.heap.size,2,none⟩=some (.slice O d.ports.length no)∧w'.cell? ⟨w.heap.size+1,0,none⟩=some (.slice (some ⟨bl,ol_,none⟩) cs.length nc)∧w'.cell? ⟨w.heap.size+1+1,0,none⟩=some (.string x.name)∧w'.cell? ⟨w.heap.size+1+1,1,none⟩=some (.int .i64 x.cell)∧w'.cell? ⟨w.heap.size+1+1,2,none⟩=some (.slice XN x.nets.length xn)∧w'.cell? ⟨bl,ol_+ci * 7+2,none⟩=some (.slice PB cc.pins.length pm)∧Grows (((w.alloc (.cells #[.slice I d.insts.length ni,.slice N d.nets.length nn,.slice O d.ports.length no] 31)).alloc (.cells #[.slice (some ⟨bl,ol_,none⟩) cs.length nc] 26)).alloc (.cells #[.string x.name,.int .i64 x.cell,.slice XN x.nets.length xn] 72)) w')) (by kernel_rfl) ?_ (fun hh0=>?_)
  ·(try dsimp only);exact HK.out _ gk
  refine regTk 0 hh0 ?_
  refine regTk 1 hh0 ?_
  refine regTk 2 hh0 ?_
  refine regTk 3 hh0 ?_
  refine regCall 4 (fun K hK=>?_)
  go_simp
  refine (lenCell_any _ HL.out).mono ?_
  rintro e wx ⟨rfl,g⟩
  replace gg:=gg.gt g
  clear g
  (try go_wp2_with fail)
  refine hK.out _ _ ?_ (fun hh1=>?_)
  ·(try dsimp only);exact HK.out _ gk
  clear hK K hh0
  try simp only [Act.put,List.setIfInBounds_toArray,List.set_cons_zero,List.set_cons_succ]
  refine regTk 5 hh1 ?_
  refine regCall 6 (fun K hK=>?_)
  go_simp
  refine (within_g _ _ _ _).mono ?_
  rintro e wx ⟨rfl,g⟩
  rw [FC.out]
  replace gg:=gg.gt g
  clear g
  (try go_wp2_with fail)
  refine hK.out _ _ ?_ (fun hh2=>?_)
  ·(try dsimp only);exact HK.out _ gk
  clear hK K hh1
  try simp only [Act.put,List.setIfInBounds_toArray,List.set_cons_zero,List.set_cons_succ]
  refine regTk 7 hh2 ?_
  refine regTk 8 hh2 ?_
  refine regTk 9 hh2 ?_
  refine regTk 10 hh2 ?_
  refine regTk 11 hh2 ?_
  refine regTk 12 hh2 ?_
  refine regTk 13 hh2 ?_
  refine regTk 14 hh2 ?_
  refine regTk 15 hh2 ?_
  refine regTk 16 hh2 ?_
  refine regTk 17 hh2 ?_
  refine regTk 18 hh2 ?_
  refine regTk 19 hh2 ?_
  refine regTk 20 hh2 ?_
  refine regTk 21 hh2 ?_
  refine regSk 22 hh2 ?_
  refine regSk 23 hh2 ?_
  refine regSk 24 hh2 ?_
  refine regSk 25 hh2 ?_
  refine regSk 26 hh2 ?_
  refine regTk 27 hh2 ?_
  refine regTk 28 hh2 ?_
  refine wpAnyH_done (by kernel_rfl) ?_ _
  go_wp2
  go_ret
  exact ⟨ret_bool EP.out.symm,G.out.trans gk⟩
 have hp1:((x.nets.length:Int)==(cc.pins.length:Int))=true:=by rw [beq_iff_eq];omega
 have HPN:=hideIt hpn
 clear hpn
 obtain ⟨q,hq⟩:∃q,(x.nets.any fun n=>!netIn d n)=q:=⟨_,rfl⟩
 have EP:Hid (instB cs d x=!q):=hideIt (by
  rw [←hq,any_notN]
  cases hqq:x.nets.all (netIn d)
  ·exact pB_false fun h=>by have:=h.nets;rw [hqq] at this;cases this
  ·exact pB_true ⟨FC.out,fun c hc=>by rw [i2,CC.out] at hc;injection hc with hc;rw [←hc];exact HPN.out,hqq⟩)
 have FA:=hideIt hq
 clear hq
 have K0:∀w',Grows (((w.alloc (.cells #[.slice I d.insts.length ni,.slice N d.nets.length nn,.slice O d.ports.length no] 31)).alloc (.cells #[.slice (some ⟨bl,ol_,none⟩) cs.length nc] 26)).alloc (.cells #[.string x.name,.int .i64 x.cell,.slice XN x.nets.length xn] 72)) w'→w'.cell? ⟨w.heap.size,0,none⟩=some (.slice I d.insts.length ni)∧w'.cell? ⟨w.heap.size,1,none⟩=some (.slice N d.nets.length nn)∧w'.cell? ⟨w.heap.size,2,none⟩=some (.slice O d.ports.length no)∧w'.cell? ⟨w.heap.size+1,0,none⟩=some (.slice (some ⟨bl,ol_,none⟩) cs.length nc)∧w'.cell? ⟨w.heap.size+1+1,0,none⟩=some (.string x.name)∧w'.cell? ⟨w.heap.size+1+1,1,none⟩=some (.int .i64 x.cell)∧w'.cell? ⟨w.heap.size+1+1,2,none⟩=some (.slice XN x.nets.length xn)∧w'.cell? ⟨bl,ol_+ci * 7+2,none⟩=some (.slice PB cc.pins.length pm)∧Grows (((w.alloc (.cells #[.slice I d.insts.length ni,.slice N d.nets.length nn,.slice O d.ports.length no] 31)).alloc (.cells #[.slice (some ⟨bl,ol_,none⟩) cs.length nc] 26)).alloc (.cells #[.string x.name,.int .i64 x.cell,.slice XN x.nets.length xn] 72)) w':=fun w' G=>⟨(G.cells.1 _ _ S1.out.lt).trans (S1.out.cell 0),(G.cells.1 _ _ S1.out.lt).trans (S1.out.cell 1),(G.cells.1 _ _ S1.out.lt).trans (S1.out.cell 2),(G.cells.1 _ _ S2.out.lt).trans (S2.out.cell 0),(G.cells.1 _ _ S3.out.lt).trans (S3.out.cell 0),(G.cells.1 _ _ S3.out.lt).trans (S3.out.cell 1),(G.cells.1 _ _ S3.out.lt).trans (S3.out.cell 2),(G.cells.1 _ _ (by have:=lbl.out;simp at this ⊢;omega)).trans kp.out,G⟩
 have HK:=hideIt K0
 clear K0
 have gg:Grows (((w.alloc (.cells #[.slice I d.insts.length ni,.slice N d.nets.length nn,.slice O d.ports.length no] 31)).alloc (.cells #[.slice (some ⟨bl,ol_,none⟩) cs.length nc] 26)).alloc (.cells #[.string x.name,.int .i64 x.cell,.slice XN x.nets.length xn] 72)) (((w.alloc (.cells #[.slice I d.insts.length ni,.slice N d.nets.length nn,.slice O d.ports.length no] 31)).alloc (.cells #[.slice (some ⟨bl,ol_,none⟩) cs.length nc] 26)).alloc (.cells #[.string x.name,.int .i64 x.cell,.slice XN x.nets.length xn] 72)):=Grows.refl _
 go_enter Tryz.func44,Tryz.ntmps44
 go_wp2
 refine wp_region_held_drew (S:=(fun w'=>w'.cell? ⟨w.heap.size,0,none⟩=some (.slice I d.insts.length ni)∧w'.cell? ⟨w.heap.size,1,none⟩=some (.slice N d.nets.length nn)∧w'.cell? ⟨w.heap.size,2,none⟩=some (.slice O d.ports.length no)∧w'.cell? ⟨w.heap.size+1,0,none⟩=some (.slice (some ⟨bl,ol_,none⟩) cs.length nc)∧w'.cell? ⟨w.heap.size+1+1,0,none⟩=some (.string x.name)∧w'.cell? ⟨w.heap.size+1+1,1,none⟩=some (.int .i64 x.cell)∧w'.cell? ⟨w.heap.size+1+1,2,none⟩=some (.slice XN x.nets.length xn)∧w'.cell? ⟨bl,ol_+ci * 7+2,none⟩=some (.slice PB cc.pins.length pm)∧Grows (((w.alloc (.cells #[.slice I d.insts.length ni,.slice N d.nets.length nn,.slice O d.ports.length no] 31)).alloc (.cells #[.slice (some ⟨bl,ol_,none⟩) cs.length nc] 26)).alloc (.cells #[.string x.name,.int .i64 x.cell,.slice XN x.nets.length xn] 72)) w')) (by kernel_rfl) ?_ (fun hh0=>?_)
 ·(try dsimp only);exact HK.out _ gk
 refine regTk 0 hh0 ?_
 refine regTk 1 hh0 ?_
 refine regTk 2 hh0 ?_
 refine regTk 3 hh0 ?_
 refine regCall 4 (fun K hK=>?_)
 go_simp
 refine (lenCell_any _ HL.out).mono ?_
 rintro e wx ⟨rfl,g⟩
 replace gg:=gg.gt g
 clear g
 (try go_wp2_with fail)
 refine hK.out _ _ ?_ (fun hh1=>?_)
 ·(try dsimp only);exact HK.out _ gk
 clear hK K hh0
 try simp only [Act.put,List.setIfInBounds_toArray,List.set_cons_zero,List.set_cons_succ]
 refine regTk 5 hh1 ?_
 refine regCall 6 (fun K hK=>?_)
 go_simp
 refine (within_g _ _ _ _).mono ?_
 rintro e wx ⟨rfl,g⟩
 rw [FC.out]
 replace gg:=gg.gt g
 clear g
 (try go_wp2_with fail)
 refine hK.out _ _ ?_ (fun hh2=>?_)
 ·(try dsimp only);exact HK.out _ gk
 clear hK K hh1
 try simp only [Act.put,List.setIfInBounds_toArray,List.set_cons_zero,List.set_cons_succ]
 refine regTk 7 hh2 ?_
 refine regTk 8 hh2 ?_
 refine regTk 9 hh2 ?_
 refine regTk 10 hh2 ?_
 refine regTk 11 hh2 ?_
 refine regTk 12 hh2 ?_
 refine regTk 13 hh2 ?_
 refine regTk 14 hh2 ?_
 refine regTk 15 hh2 ?_
 refine regTk 16 hh2 ?_
 refine regTk 17 hh2 ?_
 refine regTk 18 hh2 ?_
 refine regTk 19 hh2 ?_
 refine regTk 20 hh2 ?_
 refine regTk 21 hh2 ?_
 refine regTk 22 hh2 ?_
 refine regTk 23 hh2 ?_
 refine regTk 24 hh2 ?_
 refine regCall 25 (fun K hK=>?_)
 go_simp
 refine (containsFuncI64_any 86 _ (fun args W=>enters_of Tryz.func86 (by kernel_rfl) rfl args W) (fun n=>!netIn d n) _ (RInts.keep HXN.out (Grows.keeps gk)) ?_).mono ?_
 ·intro y c0 W _ gw hr
  unfold RI at hr
  injection hr with hr
  subst hr
  have gq:=Grows.trans gk gw
  obtain ⟨z0,z1,z2,-⟩:=HK.out _ gq
  exact isInst1_any y _ W (HD.out.keep gq.keeps) z0 z1 z2
 rintro e wx ⟨rfl,g⟩
 rw [FA.out]
 replace gg:=gg.gt g
 clear g
 (try go_wp2_with fail)
 refine hK.out _ _ ?_ (fun hh3=>?_)
 ·(try dsimp only);exact HK.out _ gk
 clear hK K hh2
 try simp only [Act.put,List.setIfInBounds_toArray,List.set_cons_zero,List.set_cons_succ]
 refine regTk 26 hh3 ?_
 refine regTk 27 hh3 ?_
 refine regTk 28 hh3 ?_
 refine wpAnyH_done (by kernel_rfl) ?_ _
 go_wp2
 go_ret
 exact ⟨ret_bool EP.out.symm,G.out.trans gk⟩
end Go.Proofs.YtlnpefiipdkafaaGreatDoor
/-
  Contract of the program's test of the names of a design.
-/
namespace Go.Proofs.YtlnpefiipdkafaaGreatDoor
open Go.RowKit
structure HasP (d:DesignD):Prop where
 ni:d.insts.length≤14
 nn:d.nets.length≤30
 np:d.ports.length≤8
 iname:NamesP (d.insts.map (·.name))
 nname:NamesP d.nets
 pname:NamesP (d.ports.map (·.name))
set_option maxHeartbeats 8000000 in
set_option maxRecDepth 10000 in
theorem hasNames_any {a b c:Value} {d:DesignD} (w:World) (hd:RDesign w [a,b,c] d) (hs:SmDesign d) :
  Calls Tryz.prog 43 #[.agg #[a,b,c]] w fun e w'=>e=.returned (.bool (pB (HasP d)))∧Grows w w':=by
 obtain ⟨i0,hi,hz0,hz1,hz2⟩:=info_parts info_str
 have il:=RList.len hd.parts.1
 have nl:=RList.len hd.parts.2.1
 have ol:=RList.len hd.parts.2.2
 have is_:=hs.1.1
 have ns_:=hs.2.1.1
 have os_:=hs.2.2.1
 unfold SmL at is_ ns_ os_
 obtain ⟨I,N,O,ni,nn,no,rfl,rfl,rfl⟩:=des_open hd
 have g0:=(Grows.refl w).alloc (.cells #[.slice I d.insts.length ni,.slice N d.nets.length nn,.slice O d.ports.length no] 31)
 have S:=hideIt (Blk.new w 31 #[.slice I d.insts.length ni,.slice N d.nets.length nn,.slice O d.ports.length no])
 have HI:=hideIt (RInsts.keep hd.parts.1 g0.keeps)
 have HN:=hideIt (RStrs.keep hd.parts.2.1 g0.keeps)
 have HO:=hideIt (RPorts.keep hd.parts.2.2 g0.keeps)
 have G:=hideIt g0
 clear hd g0 hs
 go_enter Tryz.func43,Tryz.ntmps43
 go_wp2
 go_loopw [3,6,12] (fun s _ i wr=>∃(nv:Value) (k:Nat),nv=s∧k≤d.insts.length∧i=.int .i64 (k:Int)∧Hid (wr.ownsRow (w.heap.size+1) 9 1 nv k (inV d.insts k))∧Grows (w.alloc (.cells #[.slice I d.insts.length ni,.slice N d.nets.length nn,.slice O d.ports.length no] 31)) wr) (fun _ _ i _=>d.insts.length - (intOf i).toNat)
 case atStart=>exact ⟨_,0,rfl,by omega,rfl,World.ownsRow_nil _ _ _ _,Grows.refl _⟩
 case round =>
  obtain ⟨nv,k,rfl,hk,rfl,hown,hg⟩:=hrel
  have HG:=hideIt hg
  have GA:=hideIt (G.out.trans hg)
  have S2:=hideIt (S.out.grows hg)
  clear hg
  have kd0:wr.cell? ⟨w.heap.size,0,none⟩=some (.slice I d.insts.length ni):=S2.out.cell 0
  have kd1:wr.cell? ⟨w.heap.size,1,none⟩=some (.slice N d.nets.length nn):=S2.out.cell 1
  have kd2:wr.cell? ⟨w.heap.size,2,none⟩=some (.slice O d.ports.length no):=S2.out.cell 2
  have kdz:=S2.out.lt
  by_cases hlt:k<d.insts.length
  ·obtain ⟨x,hx⟩:∃x,d.insts[k]?=some x:=⟨_,List.getElem?_eq_getElem hlt⟩
   obtain ⟨bi,oi,XN,xn,rfl,q0,q1,q2,-,-⟩:=inst_at (RInsts.keep HI.out HG.out.keeps) hx
   have X1:=hideIt hx
   clear hx
   have own1:=hideIt ((hown.out.alloc (.cells #[.string x.name,.int .i64 x.cell,.slice XN x.nets.length xn] 72)).alloc (.cells #[.string x.name] 9))
   have G3:=hideIt ((HG.out.alloc (.cells #[.string x.name,.int .i64 x.cell,.slice XN x.nets.length xn] 72)).alloc (.cells #[.string x.name] 9))
   have nlt:Hid (∀q,nv.ownBlock=some q→w.heap.size+1≤q∧q<wr.heap.size):=hideIt hown.out.lt
   go_wp2_with (at_builtin;refine wpList_append_own _ rfl _ _ 28 rfl (w.heap.size+1) 9 i0 (.string .empty) 1 16 Tryz.underlying28 hi hz0 hz1 hz2 rfl (by decide) nv k (inV d.insts k) rfl own1.out ⟨wr.heap.size+1,0,none⟩ 1 1 [.string x.name] rfl ?c1 ?c2 ?c3 ?c4 ?c5 ?c6 ?_)
   case c1=>simp
   case c2 =>
    intro j u hj
    match j,hj with
    | 0,hj=>simp at hj;subst hj;simp [Addr.add]
   case c3=>intro u hu;simp at hu;subst hu;rfl
   case c4=>unfold maxLen;omega
   case c5=>omega
   case c6=>have:=G3.out.size;simpa using this
   intro v' w3 hown2 hgrow hnil
   have G4:=hideIt (G3.out.grown hgrow (fun q e=>by have h1:=(nlt.out q e).1;simpa using h1))
   have OW:=hideIt (show w3.ownsRow (w.heap.size+1) 9 1 v' (k+1) (inV d.insts (k+1)) by rw [inV_succ X1.out];exact hown2)
   have xg:w3.cell? ⟨wr.heap.size,0,none⟩=w3.cell? ⟨wr.heap.size,0,none⟩:=rfl
   clear hown2 hgrow hnil own1 q0 q1 q2 xg
   go_wp2
   go_roundw
   case rel=>exact ⟨_,k+1,rfl,by omega,by go_num,OW.out,G4.out⟩
   case measure=>simp [intOf];omega
  ·obtain rfl:k=d.insts.length:=by omega
   have RS1:Hid (RStrs wr nv (d.insts.map (·.name))):=hideIt (own_strs (n:=d.insts.length) (base:=w.heap.size+1) (xs:=d.insts.map (·.name)) (by simp) (by have:=hown.out;unfold inV at this;rw [List.take_length] at this;exact this) (fun s hs=>by
    obtain ⟨p,hp,rfl⟩:=List.mem_map.1 hs
    obtain ⟨m,hm⟩:=List.getElem?_of_mem hp
    obtain ⟨_,_,_,_,-,-,-,-,-,hz⟩:=inst_at HI.out hm
    exact hz))
   obtain ⟨w3,ew3⟩:∃w3:World,w3=wr:=⟨_,rfl⟩
   subst ew3
   clear hown
   go_wp2
   go_loopw [4,8,25] (fun s _ i wr=>∃(nv:Value) (k:Nat),nv=s∧k≤d.ports.length∧i=.int .i64 (k:Int)∧Hid (wr.ownsRow w3.heap.size 9 1 nv k (poV d.ports k))∧Grows w3 wr) (fun _ _ i _=>d.ports.length - (intOf i).toNat)
   case atStart=>exact ⟨_,0,rfl,by omega,rfl,World.ownsRow_nil _ _ _ _,Grows.refl _⟩
   case round =>
    obtain ⟨nw,k,rfl,hk,rfl,hown,hg⟩:=hrel
    have HH:=hideIt hg
    have Y2:=hideIt (S2.out.grows hg)
    clear hg kd0 kd1 kd2 kdz
    have kd0:wr.cell? ⟨w.heap.size,0,none⟩=some (.slice I d.insts.length ni):=Y2.out.cell 0
    have kd1:wr.cell? ⟨w.heap.size,1,none⟩=some (.slice N d.nets.length nn):=Y2.out.cell 1
    have kd2:wr.cell? ⟨w.heap.size,2,none⟩=some (.slice O d.ports.length no):=Y2.out.cell 2
    have kdz:=Y2.out.lt
    by_cases hlt:k<d.ports.length
    ·obtain ⟨x,hx⟩:∃x,d.ports[k]?=some x:=⟨_,List.getElem?_eq_getElem hlt⟩
     obtain ⟨bi,oi,rfl,q0,q1,q2,-⟩:=port_at (RPorts.keep HO.out (HG.out.trans HH.out).keeps) hx
     have X1:=hideIt hx
     clear hx
     have own1:=hideIt ((hown.out.alloc (.cells #[.string x.name,.int .i64 x.dir,.int .i64 x.net] 74)).alloc (.cells #[.string x.name] 9))
     have G3:=hideIt ((HH.out.alloc (.cells #[.string x.name,.int .i64 x.dir,.int .i64 x.net] 74)).alloc (.cells #[.string x.name] 9))
     have nlt:Hid (∀q,nw.ownBlock=some q→w3.heap.size≤q∧q<wr.heap.size):=hideIt hown.out.lt
     go_wp2_with (at_builtin;refine wpList_append_own _ rfl _ _ 28 rfl w3.heap.size 9 i0 (.string .empty) 1 16 Tryz.underlying28 hi hz0 hz1 hz2 rfl (by decide) nw k (poV d.ports k) rfl own1.out ⟨wr.heap.size+1,0,none⟩ 1 1 [.string x.name] rfl ?c1 ?c2 ?c3 ?c4 ?c5 ?c6 ?_)
     case c1=>simp
     case c2 =>
      intro j u hj
      match j,hj with
      | 0,hj=>simp at hj;subst hj;simp [Addr.add]
     case c3=>intro u hu;simp at hu;subst hu;rfl
     case c4=>unfold maxLen;omega
     case c5=>omega
     case c6=>have:=G3.out.size;simpa using this
     intro v' w4 hown2 hgrow hnil
     have G4:=hideIt (G3.out.grown hgrow (fun q e=>(nlt.out q e).1))
     have OW:=hideIt (show w4.ownsRow w3.heap.size 9 1 v' (k+1) (poV d.ports (k+1)) by rw [poV_succ X1.out];exact hown2)
     clear hown2 hgrow hnil own1 q0 q1 q2
     go_wp2
     go_roundw
     case rel=>exact ⟨_,k+1,rfl,by omega,by go_num,OW.out,G4.out⟩
     case measure=>simp [intOf];omega
    ·obtain rfl:k=d.ports.length:=by omega
     have RS2:Hid (RStrs wr nw (d.ports.map (·.name))):=hideIt (own_strs (n:=d.ports.length) (base:=w3.heap.size) (xs:=d.ports.map (·.name)) (by simp) (by have:=hown.out;unfold poV at this;rw [List.take_length] at this;exact this) (fun s hs=>by
      obtain ⟨p,hp,rfl⟩:=List.mem_map.1 hs
      obtain ⟨m,hm⟩:=List.getElem?_of_mem hp
      obtain ⟨_,_,-,-,-,-,hz⟩:=port_at HO.out hm
      exact hz))
     have R1:=hideIt (RStrs.keep RS1.out HH.out.keeps)
     have R3:=hideIt (RStrs.keep HN.out (HG.out.trans HH.out).keeps)
     have GZ:=hideIt (GA.out.trans HH.out)
     obtain ⟨v1,n1,e1⟩:∃(A:Option Addr) (n:Nat),nv=.slice A d.insts.length n:=by obtain ⟨A,c,e,-⟩:=RList.form R1.out;exact ⟨A,c,by rw [e];simp⟩
     obtain ⟨v2,n2,e2⟩:∃(A:Option Addr) (n:Nat),nw=.slice A d.ports.length n:=by obtain ⟨A,c,e,-⟩:=RList.form RS2.out;exact ⟨A,c,by rw [e];simp⟩
     subst e1 e2
     clear hown
     by_cases hni:d.insts.length≤14
     rotate_left
     ·have EP:=hideIt (pB_false (p:=HasP d) fun h=>hni h.ni)
      have bni:decide ((d.insts.length:Int)≤14)=false:=decide_eq_false (by omega)
      clear hni
      go_wp2
      go_ret
      exact ⟨ret_bool EP.out.symm,GZ.out⟩
     have bni:decide ((d.insts.length:Int)≤14)=true:=decide_eq_true (by omega)
     by_cases hnn:d.nets.length≤30
     rotate_left
     ·have EP:=hideIt (pB_false (p:=HasP d) fun h=>hnn h.nn)
      have bnn:decide ((d.nets.length:Int)≤30)=false:=decide_eq_false (by omega)
      clear hnn
      go_wp2
      go_ret
      exact ⟨ret_bool EP.out.symm,GZ.out⟩
     have bnn:decide ((d.nets.length:Int)≤30)=true:=decide_eq_true (by omega)
     by_cases hnp:d.ports.length≤8
     rotate_left
     ·have EP:=hideIt (pB_false (p:=HasP d) fun h=>hnp h.np)
      have bnp:decide ((d.ports.length:Int)≤8)=false:=decide_eq_false (by omega)
      clear hnp
      go_wp2
      go_ret
      exact ⟨ret_bool EP.out.symm,GZ.out⟩
     have bnp:decide ((d.ports.length:Int)≤8)=true:=decide_eq_true (by omega)
     go_wp2_with fail
     refine (areNames_any _ R1.out).mono ?_
     rintro e u0 ⟨rfl,gu⟩
     have GU0:=hideIt (GZ.out.trans gu)
     have YU0:=hideIt (Y2.out.grows gu)
     replace R3:=hideIt (RStrs.keep R3.out gu.keeps)
     replace RS2:=hideIt (RStrs.keep RS2.out gu.keeps)
     clear gu kd0 kd1 kd2 kdz
     have kd0:u0.cell? ⟨w.heap.size,0,none⟩=some (.slice I d.insts.length ni):=YU0.out.cell 0
     have kd1:u0.cell? ⟨w.heap.size,1,none⟩=some (.slice N d.nets.length nn):=YU0.out.cell 1
     have kd2:u0.cell? ⟨w.heap.size,2,none⟩=some (.slice O d.ports.length no):=YU0.out.cell 2
     have kdz:=YU0.out.lt
     cases e0:pB (NamesP (d.insts.map (·.name)))
     ·have EP:=hideIt (pB_false (p:=HasP d) fun h=>by have:=pB_true h.iname;rw [this] at e0;cases e0)
      clear e0
      go_wp2
      go_ret
      exact ⟨ret_bool EP.out.symm,GU0.out⟩
     have N0:=hideIt (pB_iff.1 e0)
     clear e0
     go_wp2_with fail
     refine (areNames_any _ R3.out).mono ?_
     rintro e u1 ⟨rfl,gu⟩
     have GU1:=hideIt (GU0.out.trans gu)
     have YU1:=hideIt (YU0.out.grows gu)
     replace RS2:=hideIt (RStrs.keep RS2.out gu.keeps)
     clear gu kd0 kd1 kd2 kdz
     have kd0:u1.cell? ⟨w.heap.size,0,none⟩=some (.slice I d.insts.length ni):=YU1.out.cell 0
     have kd1:u1.cell? ⟨w.heap.size,1,none⟩=some (.slice N d.nets.length nn):=YU1.out.cell 1
     have kd2:u1.cell? ⟨w.heap.size,2,none⟩=some (.slice O d.ports.length no):=YU1.out.cell 2
     have kdz:=YU1.out.lt
     cases e1:pB (NamesP (d.nets))
     ·have EP:=hideIt (pB_false (p:=HasP d) fun h=>by have:=pB_true h.nname;rw [this] at e1;cases e1)
      clear e1
      go_wp2
      go_ret
      exact ⟨ret_bool EP.out.symm,GU1.out⟩
     have N1:=hideIt (pB_iff.1 e1)
     clear e1
     go_wp2_with fail
     refine (areNames_any _ RS2.out).mono ?_
     rintro e u2 ⟨rfl,gu⟩
     have GU2:=hideIt (GU1.out.trans gu)
     have YU2:=hideIt (YU1.out.grows gu)
     clear gu kd0 kd1 kd2 kdz
     have kd0:u2.cell? ⟨w.heap.size,0,none⟩=some (.slice I d.insts.length ni):=YU2.out.cell 0
     have kd1:u2.cell? ⟨w.heap.size,1,none⟩=some (.slice N d.nets.length nn):=YU2.out.cell 1
     have kd2:u2.cell? ⟨w.heap.size,2,none⟩=some (.slice O d.ports.length no):=YU2.out.cell 2
     have kdz:=YU2.out.lt
     cases e2:pB (NamesP (d.ports.map (·.name)))
     ·have EP:=hideIt (pB_false (p:=HasP d) fun h=>by have:=pB_true h.pname;rw [this] at e2;cases e2)
      clear e2
      go_wp2
      go_ret
      exact ⟨ret_bool EP.out.symm,GU2.out⟩
     have N2:=hideIt (pB_iff.1 e2)
     clear e2
     have EP:=hideIt (pB_true (p:=HasP d) ⟨hni,hnn,hnp,N0.out,N1.out,N2.out⟩)
     go_wp2
     go_ret
     exact ⟨ret_bool EP.out.symm,GU2.out⟩
end Go.Proofs.YtlnpefiipdkafaaGreatDoor
/-
  Contract of the program's IsDesign.
-/
namespace Go.Proofs.YtlnpefiipdkafaaGreatDoor
open Go.RowKit
theorem info_int:(Tryz.prog.info? 3).map (fun i=>(i.zero,i.size,i.bytes))=some (some (.int .i64 0),1,8):=by kernel_rfl
theorem drv_ints {wr:World} {B:Nat} {t:TypeId} {n:Nat} {f:Nat→Nat} (h:Drv wr B t n f) (hn:n≤maxLen):RList 1 RI wr (.slice (some ⟨B,0,none⟩) n n) ((List.range n).map fun j=>(f j:Int)):=by
 refine ⟨some ⟨B,0,none⟩,n,by simp,by simp,hn,.inr ⟨B,0,rfl,fun i x hx=>?_⟩⟩
 rw [List.getElem?_map] at hx
 obtain ⟨j,hj,rfl⟩:=Option.map_eq_some_iff.1 hx
 obtain ⟨hlt,e⟩:=List.getElem?_eq_some_iff.1 hj
 simp at hlt e
 subst e
 refine ⟨[.int .i64 (f i:Int)],rfl,fun j u hu=>?_,rfl⟩
 match j,hu with
 | 0,hu=>simp at hu;subst hu;simpa using h.cell hlt
theorem drv_any {n:Nat} {f:Nat→Nat}:(((List.range n).map fun j=>(f j:Int)).any fun m=>m != 1)=!pB (∀j,j<n→f j=1):=by
 cases hq:pB (∀j,j<n→f j=1)
 ·have hn:¬∀j,j<n→f j=1:=fun h=>by have:=pB_true h;rw [hq] at this;cases this
  simp only [Bool.not_false,List.any_eq_true]
  refine Classical.byContradiction fun hc=>hn fun j hj=>Classical.byContradiction fun h1=>hc ⟨_,List.mem_map.2 ⟨j,List.mem_range.2 hj,rfl⟩,?_⟩
  rw [bne_iff_ne]
  omega
 ·have h:=pB_iff.1 hq
  simp only [Bool.not_true,List.any_eq_false]
  intro m hm
  obtain ⟨j,hj,rfl⟩:=List.mem_map.1 hm
  rw [h j (List.mem_range.1 hj)]
  decide
theorem isDes1_any (n:Int) (W:World):Calls Tryz.prog 47 #[.int .i64 n] W fun e W'=>e=.returned (.bool (n != 1))∧Grows W W':=by
 go_enter Tryz.func47,Tryz.ntmps47
 go_wp2
 go_ret
 exact ⟨rfl,Grows.refl _⟩
set_option maxHeartbeats 16000000 in
set_option maxRecDepth 10000 in
theorem iIsDes_any {vl a b c:Value} {cs:List CellD} {d:DesignD} (w:World) (hl:RCells w vl cs) (hd:RDesign w [a,b,c] d) (hsl:SmCells cs) (hsd:SmDesign d) :
  Calls Tryz.prog 11 #[.agg #[vl],.agg #[a,b,c]] w fun e w'=>e=.returned (.bool (desB cs d))∧Grows w w':=by
 obtain ⟨j0,hj,hy0,hy1,hy2⟩:=info_parts info_int
 have cl:=RList.len hl
 obtain ⟨C,nc,rfl⟩:∃(D:Option Addr) (nd:Nat),vl=.slice D cs.length nd:=by obtain ⟨D,c,e,-⟩:=RList.form hl;exact ⟨D,c,e⟩
 obtain ⟨I,N,O,ni,nn,no,rfl,rfl,rfl⟩:=des_open hd
 have h1:=hd.parts.1
 have h3:=hd.parts.2.2
 have il:=RList.len hd.parts.1
 have nl:=RList.len hd.parts.2.1
 have ol:=RList.len hd.parts.2.2
 have g0:=((Grows.refl w).alloc (.cells #[.slice C cs.length nc] 26)).alloc (.cells #[.slice I d.insts.length ni,.slice N d.nets.length nn,.slice O d.ports.length no] 31)
 have S1:Hid (Blk ((w.alloc (.cells #[.slice C cs.length nc] 26)).alloc (.cells #[.slice I d.insts.length ni,.slice N d.nets.length nn,.slice O d.ports.length no] 31)) w.heap.size 26 #[.slice C cs.length nc]):=hideIt ((Blk.new w 26 #[.slice C cs.length nc]).grows ((Grows.refl _).alloc (.cells #[.slice I d.insts.length ni,.slice N d.nets.length nn,.slice O d.ports.length no] 31)))
 have S2:Hid (Blk ((w.alloc (.cells #[.slice C cs.length nc] 26)).alloc (.cells #[.slice I d.insts.length ni,.slice N d.nets.length nn,.slice O d.ports.length no] 31)) (w.heap.size+1) 31 #[.slice I d.insts.length ni,.slice N d.nets.length nn,.slice O d.ports.length no]):=by
  have:=Blk.new (w.alloc (.cells #[.slice C cs.length nc] 26)) 31 #[.slice I d.insts.length ni,.slice N d.nets.length nn,.slice O d.ports.length no]
  exact hideIt (by simpa using this)
 have HL:=hideIt (RCells.keep hl g0.keeps)
 have HI:=hideIt (RInsts.keep h1 g0.keeps)
 have HO:=hideIt (RPorts.keep h3 g0.keeps)
 have HD:=hideIt (hd.keep g0.keeps)
 have G:=hideIt g0
 clear hl hd h1 h3 g0
 go_enter Tryz.func11,Tryz.ntmps11
 go_wp2_with fail
 refine (iIsLib_any _ HL.out hsl).mono ?_
 rintro e u1 ⟨rfl,g1⟩
 have GA1:=hideIt (G.out.trans g1)
 have T1:=hideIt (S1.out.grows g1)
 have T2:=hideIt (S2.out.grows g1)
 have HD1:=hideIt (HD.out.keep g1.keeps)
 have B1:=hideIt g1
 clear g1
 have kl:u1.cell? ⟨w.heap.size,0,none⟩=some (.slice C cs.length nc):=T1.out.cell 0
 have klz:=T1.out.lt
 have kd0:u1.cell? ⟨w.heap.size+1,0,none⟩=some (.slice I d.insts.length ni):=T2.out.cell 0
 have kd1:u1.cell? ⟨w.heap.size+1,1,none⟩=some (.slice N d.nets.length nn):=T2.out.cell 1
 have kd2:u1.cell? ⟨w.heap.size+1,2,none⟩=some (.slice O d.ports.length no):=T2.out.cell 2
 have kdz:=T2.out.lt
 cases hlb:libB cs
 ·have EP:=hideIt (show desB cs d=false from pB_false fun h=>by have:=pB_true h.lib;unfold libB at hlb;rw [this] at hlb;cases hlb)
  clear hlb
  go_wp2
  go_ret
  exact ⟨ret_bool EP.out.symm,GA1.out⟩
 have LP:=hideIt (pB_iff.1 hlb)
 clear hlb
 go_wp2_with fail
 refine (hasNames_any _ HD1.out hsd).mono ?_
 rintro e u2 ⟨rfl,g2⟩
 have HB2:=hideIt (B1.out.trans g2)
 have GA2:=hideIt (GA1.out.trans g2)
 have U1:=hideIt (T1.out.grows g2)
 have U2:=hideIt (T2.out.grows g2)
 clear g2 kl klz kd0 kd1 kd2 kdz
 have kl:u2.cell? ⟨w.heap.size,0,none⟩=some (.slice C cs.length nc):=U1.out.cell 0
 have klz:=U1.out.lt
 have kd0:u2.cell? ⟨w.heap.size+1,0,none⟩=some (.slice I d.insts.length ni):=U2.out.cell 0
 have kd1:u2.cell? ⟨w.heap.size+1,1,none⟩=some (.slice N d.nets.length nn):=U2.out.cell 1
 have kd2:u2.cell? ⟨w.heap.size+1,2,none⟩=some (.slice O d.ports.length no):=U2.out.cell 2
 have kdz:=U2.out.lt
 cases hhb:pB (HasP d)
 ·have EP:=hideIt (show desB cs d=false from pB_false fun h=>by have:=pB_true (p:=HasP d) ⟨h.ni,h.nn,h.np,h.iname,h.nname,h.pname⟩;rw [this] at hhb;cases hhb)
  clear hhb
  go_wp2
  go_ret
  exact ⟨ret_bool EP.out.symm,GA2.out⟩
 have HP_:=hideIt (pB_iff.1 hhb)
 clear hhb
 have hnn:=HP_.out.nn
 have hni:=HP_.out.ni
 have hnp:=HP_.out.np
 have hmk:∀u:World,(Instr.makeSlice 77 (.int .i64 (d.nets.length:Int)) (.int .i64 (d.nets.length:Int))).run Tryz.prog u =
   .ok (.slice (some ⟨u.heap.size,0,none⟩) d.nets.length d.nets.length) (u.alloc (.cells (madeCells #[.int .i64 0] d.nets.length) 3)):=fun u=>by
  have h:=run_make (P:=Tryz.prog) u 77 3 j0 (.int .i64 0) Tryz.underlying77 hj hy0 .i64 .i64 (d.nets.length:Int) (d.nets.length:Int) (by omega) (Int.le_refl _) (by rw [hy2];omega) (by omega)
  simpa [hy1,Value.cells] using h
 have DR0:=hideIt (Drv.start u2 3 d.nets.length)
 go_wp2
 go_loopw [7,25] (fun _ i wr=>∃k:Nat,k≤d.insts.length∧i=.int .i64 (k:Int)∧Hid (Drv wr u2.heap.size 3 d.nets.length (drvF d k 0))∧Hid (∀(m:Nat) (x:InstD),m<k→d.insts[m]?=some x→InstOk cs d x)∧Grows u2 wr) (fun _ i _=>d.insts.length - (intOf i).toNat)
 case atStart=>exact ⟨0,by omega,rfl,DR0.out.same fun i _=>by simp [drvF,cntI,cntP],hideIt fun m x hm=>absurd hm (by omega),(Grows.refl _).alloc _⟩
 case round =>
  obtain ⟨k,hk,rfl,hdr,hok,hg⟩:=hrel
  have HJ:=hideIt hg
  have V1:=hideIt (U1.out.grows hg)
  have V2:=hideIt (U2.out.grows hg)
  clear hg kl klz kd0 kd1 kd2 kdz hmk DR0
  have kl:wr.cell? ⟨w.heap.size,0,none⟩=some (.slice C cs.length nc):=V1.out.cell 0
  have klz:=V1.out.lt
  have kd0:wr.cell? ⟨w.heap.size+1,0,none⟩=some (.slice I d.insts.length ni):=V2.out.cell 0
  have kd1:wr.cell? ⟨w.heap.size+1,1,none⟩=some (.slice N d.nets.length nn):=V2.out.cell 1
  have kd2:wr.cell? ⟨w.heap.size+1,2,none⟩=some (.slice O d.ports.length no):=V2.out.cell 2
  have kdz:=V2.out.lt
  by_cases hlt:k<d.insts.length
  ·obtain ⟨x,hx⟩:∃x,d.insts[k]?=some x:=⟨_,List.getElem?_eq_getElem hlt⟩
   obtain ⟨bi,oi,XN,xn,rfl,q0,q1,q2,hxn,hxz⟩:=inst_at (RInsts.keep HI.out (HB2.out.trans HJ.out).keeps) hx
   have X1:=hideIt hx
   have HXN:=hideIt hxn
   have gx:=(Grows.refl wr).alloc (.cells #[.string x.name,.int .i64 x.cell,.slice XN x.nets.length xn] 72)
   have RX:Hid (RInst (wr.alloc (.cells #[.string x.name,.int .i64 x.cell,.slice XN x.nets.length xn] 72)) [.string x.name,.int .i64 x.cell,.slice XN x.nets.length xn] x):=hideIt ⟨_,rfl,hxz,RInts.keep hxn gx.keeps⟩
   have GXH:=hideIt gx
   have BX:=hideIt (Blk.new wr 72 #[.string x.name,.int .i64 x.cell,.slice XN x.nets.length xn])
   clear hx hxn gx
   go_wp2_with fail
   refine (isInst_any _ (RCells.keep HL.out ((HB2.out.trans HJ.out).trans GXH.out).keeps) (HD.out.keep ((HB2.out.trans HJ.out).trans GXH.out).keeps) RX.out).mono ?_
   rintro e w3 ⟨rfl,g3⟩
   have HM:=hideIt (HJ.out.trans (GXH.out.trans g3))
   have HG:=hideIt (GXH.out.trans g3)
   have BY:=hideIt (BX.out.grows g3)
   have Z1:=hideIt (V1.out.grows HG.out)
   have Z2:=hideIt (V2.out.grows HG.out)
   have HDR:=hideIt (hdr.out.grows HG.out)
   clear g3 kl klz kd0 kd1 kd2 kdz q0 q1 q2
   have kl:w3.cell? ⟨w.heap.size,0,none⟩=some (.slice C cs.length nc):=Z1.out.cell 0
   have klz:=Z1.out.lt
   have kd0:w3.cell? ⟨w.heap.size+1,0,none⟩=some (.slice (some ⟨bi,oi,none⟩) d.insts.length ni):=Z2.out.cell 0
   have kd1:w3.cell? ⟨w.heap.size+1,1,none⟩=some (.slice N d.nets.length nn):=Z2.out.cell 1
   have kd2:w3.cell? ⟨w.heap.size+1,2,none⟩=some (.slice O d.ports.length no):=Z2.out.cell 2
   have kdz:=Z2.out.lt
   have x0:w3.cell? ⟨wr.heap.size,0,none⟩=some (.string x.name):=BY.out.cell 0
   have x1:w3.cell? ⟨wr.heap.size,1,none⟩=some (.int .i64 x.cell):=BY.out.cell 1
   have x2:w3.cell? ⟨wr.heap.size,2,none⟩=some (.slice XN x.nets.length xn):=BY.out.cell 2
   have xz:=BY.out.lt
   cases hio:instB cs d x
   ·have EP:=hideIt (show desB cs d=false from pB_false fun h=>by have:=pB_true (h.inst k x X1.out);unfold instB at hio;rw [this] at hio;cases hio)
    clear hio
    go_wp2
    go_ret
    exact ⟨ret_bool EP.out.symm,G.out.trans (HB2.out.trans HM.out)⟩
   have OKX:InstOk cs d x:=pB_iff.1 hio
   have OKH:=hideIt OKX
   clear hio
   have hlast:=(DesP.last LP.out OKX).1
   have CS:=hideIt (cntI_succ X1.out)
   obtain ⟨m,hm⟩:∃m,x.nets.length=m+1:=⟨x.nets.length - 1,by omega⟩
   obtain ⟨v,hv⟩:∃v,x.nets[m]?=some v:=⟨_,List.getElem?_eq_getElem (by omega)⟩
   have hvb:=List.all_eq_true.1 OKX.nets v (List.mem_of_getElem? hv)
   unfold netIn at hvb
   have hvb2:=inB_true hvb
   have LN:=hideIt (show lastNet x=v from lastNet_of (by rw [hm];simpa using hv))
   obtain ⟨bn,on,rfl,kv⟩:=ints_at (RInts.keep HXN.out HG.out.keeps) hv
   obtain ⟨j,rfl⟩:∃j:Nat,v=(j:Int):=⟨v.toNat,by omega⟩
   have hjl:j<d.nets.length:=by omega
   have hjl2:(j:Int)<(d.nets.length:Int):=by omega
   have XL:(x.nets.length:Int)≤9223372036854775807:=RList.len HXN.out
   rw [hm] at x2 XL
   have dj:=HDR.out.cell hjl
   have fj:=HDR.out.frozen j
   have db:=HDR.out.lt
   have cb:drvF d k 0 j≤100:=by unfold drvF;have:=cntI_le (d.insts.take k) j;have:=cntP_le (d.ports.take 0) j;simp at *;omega
   have ST:=hideIt (HDR.out.step hjl (g:=drvF d (k+1) 0) fun i=>by unfold drvF;rw [CS.out,LN.out];omega)
   have NOK:Hid (∀(m:Nat) (x:InstD),m<k+1→d.insts[m]?=some x→InstOk cs d x):=hideIt fun m y hm hy=>by
    by_cases e:m=k
    ·subst e
     rw [X1.out] at hy
     injection hy with hy
     rw [←hy]
     exact OKH.out
    ·exact hok.out m y (by omega) hy
   clear hvb hvb2 hm hv hdr OKX hlast
   generalize drvF d k 0 j=dv at *
   go_wp2
   go_roundw
   case rel=>exact ⟨k+1,by omega,by go_num,ST.out,NOK.out,HM.out.setCell (Nat.le_refl _) _⟩
   case measure=>simp [intOf];omega
  ·obtain rfl:k=d.insts.length:=by omega
   obtain ⟨w8,ew8⟩:∃w8:World,w8=wr:=⟨_,rfl⟩
   subst ew8
   have IOK:=hideIt fun (m:Nat) (x:InstD) (hx:d.insts[m]?=some x)=>hok.out m x (List.getElem?_eq_some_iff.1 hx).1 hx
   clear hok
   go_wp2
   go_loopw [9,51] (fun _ i wr=>∃q:Nat,q≤d.ports.length∧i=.int .i64 (q:Int)∧Hid (Drv wr u2.heap.size 3 d.nets.length (drvF d d.insts.length q))∧Hid (∀(m:Nat) (p:PortD),m<q→d.ports[m]?=some p→PortOk d p)∧Grows u2 wr) (fun _ i _=>d.ports.length - (intOf i).toNat)
   case atStart=>exact ⟨0,by omega,rfl,hdr.out,hideIt fun m p hm=>absurd hm (by omega),HJ.out⟩
   case round =>
    obtain ⟨q,hq,rfl,hds,hpk,hg⟩:=hrel
    have HM:=hideIt hg
    have Z1:=hideIt (U1.out.grows hg)
    have Z2:=hideIt (U2.out.grows hg)
    clear hg kl klz kd0 kd1 kd2 kdz
    have kl:wr.cell? ⟨w.heap.size,0,none⟩=some (.slice C cs.length nc):=Z1.out.cell 0
    have klz:=Z1.out.lt
    have kd0:wr.cell? ⟨w.heap.size+1,0,none⟩=some (.slice I d.insts.length ni):=Z2.out.cell 0
    have kd1:wr.cell? ⟨w.heap.size+1,1,none⟩=some (.slice N d.nets.length nn):=Z2.out.cell 1
    have kd2:wr.cell? ⟨w.heap.size+1,2,none⟩=some (.slice O d.ports.length no):=Z2.out.cell 2
    have kdz:=Z2.out.lt
    by_cases hlq:q<d.ports.length
    ·obtain ⟨p,hp⟩:∃p,d.ports[q]?=some p:=⟨_,List.getElem?_eq_getElem hlq⟩
     obtain ⟨bi,oi,rfl,q0,q1,q2,-⟩:=port_at (RPorts.keep HO.out (HB2.out.trans HM.out).keeps) hp
     have X1:=hideIt hp
     have CS:=hideIt (cntP_succ hp)
     have GX:=hideIt ((Grows.refl wr).alloc (.cells #[.string p.name,.int .i64 p.dir,.int .i64 p.net] 74))
     have BX:=hideIt (Blk.new wr 74 #[.string p.name,.int .i64 p.dir,.int .i64 p.net])
     have Y1:=hideIt (Z1.out.grows GX.out)
     have Y2:=hideIt (Z2.out.grows GX.out)
     have HDG:=hideIt (HD.out.keep ((HB2.out.trans HM.out).trans GX.out).keeps)
     clear hp
     by_cases hd1:p.dir=1
     ·have b1:(p.dir != 1)=false:=by rw [bne_eq_false_iff_eq];exact hd1
      have HDIR:=hideIt (show inB p.dir 1 2=true by rw [hd1];decide)
      have HE1:=hideIt hd1
      clear hd1
      cases hn:netIn d p.net
      ·have EP:=hideIt (show desB cs d=false from pB_false fun h=>by have:=(h.port q p X1.out).net;rw [hn] at this;cases this)
       have FN:=hideIt hn
       clear hn
       go_wp2_with fail
       refine (isNet_any p.net _ HDG.out).mono ?_
       rintro e u3 ⟨rfl,g3⟩
       rw [FN.out]
       have HG:=hideIt (GX.out.trans g3)
       have HN_:=hideIt (HM.out.trans HG.out)
       have BY:=hideIt (BX.out.grows g3)
       have HDS:=hideIt (hds.out.grows HG.out)
       clear g3 kl klz kd0 kd1 kd2 kdz q0 q1 q2
       have x1:u3.cell? ⟨wr.heap.size,1,none⟩=some (.int .i64 p.dir):=BY.out.cell 1
       have x2:u3.cell? ⟨wr.heap.size,2,none⟩=some (.int .i64 p.net):=BY.out.cell 2
       have xz:=BY.out.lt
       go_wp2
       go_ret
       exact ⟨ret_bool EP.out.symm,G.out.trans (HB2.out.trans HN_.out)⟩
      have FN:=hideIt hn
      have hvb2:=inB_true (show inB p.net 0 ((d.nets.length:Int) - 1)=true from hn)
      have OKP:=hideIt (show PortOk d p from ⟨HDIR.out,hn⟩)
      clear hn
      have NPK:Hid (∀(m:Nat) (y:PortD),m<q+1→d.ports[m]?=some y→PortOk d y):=hideIt fun m y hm hy=>by
       by_cases e:m=q
       ·subst e
        rw [X1.out] at hy
        injection hy with hy
        rw [←hy]
        exact OKP.out
       ·exact hpk.out m y (by omega) hy
      go_wp2_with fail
      refine (isNet_any p.net _ HDG.out).mono ?_
      rintro e u3 ⟨rfl,g3⟩
      rw [FN.out]
      have HG:=hideIt (GX.out.trans g3)
      have HN_:=hideIt (HM.out.trans HG.out)
      have BY:=hideIt (BX.out.grows g3)
      have HDS:=hideIt (hds.out.grows HG.out)
      clear g3 kl klz kd0 kd1 kd2 kdz q0 q1 q2
      have x1:u3.cell? ⟨wr.heap.size,1,none⟩=some (.int .i64 p.dir):=BY.out.cell 1
      have x2:u3.cell? ⟨wr.heap.size,2,none⟩=some (.int .i64 p.net):=BY.out.cell 2
      have xz:=BY.out.lt
      obtain ⟨j,hj⟩:∃j:Nat,p.net=(j:Int):=⟨p.net.toNat,by omega⟩
      have hjl:j<d.nets.length:=by omega
      have hjl2:(j:Int)<(d.nets.length:Int):=by omega
      rw [hj] at x2
      have hd1':(p.dir==1)=true:=beq_iff_eq.2 HE1.out
      have dj:=HDS.out.cell hjl
      have fj:=HDS.out.frozen j
      have db:=HDS.out.lt
      have cb:drvF d d.insts.length q j≤100:=by unfold drvF;have:=cntI_le (d.insts.take d.insts.length) j;have:=cntP_le (d.ports.take q) j;simp at *;omega
      have ST:=hideIt (HDS.out.step hjl (g:=drvF d d.insts.length (q+1)) fun i=>by unfold drvF;rw [CS.out,hj];simp only [HE1.out,true_and];omega)
      clear hds hj hvb2
      generalize drvF d d.insts.length q j=dv at *
      go_wp2
      go_roundw
      case rel=>exact ⟨q+1,by omega,by go_num,ST.out,NPK.out,HN_.out.setCell (Nat.le_refl _) _⟩
      case measure=>simp [intOf];omega
     have b1:(p.dir != 1)=true:=by rw [bne_iff_ne];exact hd1
     by_cases hd2:p.dir=2
     ·have b2:(p.dir != 2)=false:=by rw [bne_eq_false_iff_eq];exact hd2
      have HDIR:=hideIt (show inB p.dir 1 2=true by rw [hd2];decide)
      have HE1:=hideIt hd1
      clear hd1 hd2
      cases hn:netIn d p.net
      ·have EP:=hideIt (show desB cs d=false from pB_false fun h=>by have:=(h.port q p X1.out).net;rw [hn] at this;cases this)
       have FN:=hideIt hn
       clear hn
       go_wp2_with fail
       refine (isNet_any p.net _ HDG.out).mono ?_
       rintro e u3 ⟨rfl,g3⟩
       rw [FN.out]
       have HG:=hideIt (GX.out.trans g3)
       have HN_:=hideIt (HM.out.trans HG.out)
       have BY:=hideIt (BX.out.grows g3)
       have HDS:=hideIt (hds.out.grows HG.out)
       clear g3 kl klz kd0 kd1 kd2 kdz q0 q1 q2
       have x1:u3.cell? ⟨wr.heap.size,1,none⟩=some (.int .i64 p.dir):=BY.out.cell 1
       have x2:u3.cell? ⟨wr.heap.size,2,none⟩=some (.int .i64 p.net):=BY.out.cell 2
       have xz:=BY.out.lt
       go_wp2
       go_ret
       exact ⟨ret_bool EP.out.symm,G.out.trans (HB2.out.trans HN_.out)⟩
      have FN:=hideIt hn
      have hvb2:=inB_true (show inB p.net 0 ((d.nets.length:Int) - 1)=true from hn)
      have OKP:=hideIt (show PortOk d p from ⟨HDIR.out,hn⟩)
      clear hn
      have NPK:Hid (∀(m:Nat) (y:PortD),m<q+1→d.ports[m]?=some y→PortOk d y):=hideIt fun m y hm hy=>by
       by_cases e:m=q
       ·subst e
        rw [X1.out] at hy
        injection hy with hy
        rw [←hy]
        exact OKP.out
       ·exact hpk.out m y (by omega) hy
      go_wp2_with fail
      refine (isNet_any p.net _ HDG.out).mono ?_
      rintro e u3 ⟨rfl,g3⟩
      rw [FN.out]
      have HG:=hideIt (GX.out.trans g3)
      have HN_:=hideIt (HM.out.trans HG.out)
      have BY:=hideIt (BX.out.grows g3)
      have HDS:=hideIt (hds.out.grows HG.out)
      clear g3 kl klz kd0 kd1 kd2 kdz q0 q1 q2
      have x1:u3.cell? ⟨wr.heap.size,1,none⟩=some (.int .i64 p.dir):=BY.out.cell 1
      have x2:u3.cell? ⟨wr.heap.size,2,none⟩=some (.int .i64 p.net):=BY.out.cell 2
      have xz:=BY.out.lt
      have hd1':(p.dir==1)=false:=beq_eq_false_iff_ne.2 HE1.out
      have ST:=hideIt (HDS.out.same (g:=drvF d d.insts.length (q+1)) fun i _=>by unfold drvF;rw [CS.out];simp [HE1.out])
      clear hds
      go_wp2
      go_roundw
      case rel=>exact ⟨q+1,by omega,by go_num,ST.out,NPK.out,HN_.out⟩
      case measure=>simp [intOf];omega
     have b2:(p.dir != 2)=true:=by rw [bne_iff_ne];exact hd2
     have EP:=hideIt (show desB cs d=false from pB_false fun h=>by have:=inB_true (h.port q p X1.out).dir;omega)
     go_wp2
     go_ret
     exact ⟨ret_bool EP.out.symm,G.out.trans ((HB2.out.trans HM.out).trans GX.out)⟩
    ·obtain rfl:q=d.ports.length:=by omega
     have DF:=hideIt (hds.out.same (g:=fun j=>cntI d.insts j+cntP d.ports j) fun i _=>by unfold drvF;rw [List.take_length,List.take_length])
     have POK:=hideIt fun (m:Nat) (p:PortD) (hp:d.ports[m]?=some p)=>hpk.out m p (List.getElem?_eq_some_iff.1 hp).1 hp
     have EQ:=hideIt (show desB cs d=pB (∀j,j<d.nets.length→cntI d.insts j+cntP d.ports j=1) by
      cases hq:pB (∀j,j<d.nets.length→cntI d.insts j+cntP d.ports j=1)
      ·exact pB_false fun h=>by have:=pB_true h.drv;rw [hq] at this;cases this
      ·exact pB_true ⟨LP.out,hni,hnn,hnp,IOK.out,POK.out,HP_.out.iname,HP_.out.nname,HP_.out.pname,pB_iff.1 hq⟩)
     have GE_:=hideIt (G.out.trans (HB2.out.trans HM.out))
     clear hds hpk
     go_wp2_with fail
     refine (containsFuncIn_any 47 #[] (fun args W=>enters_of Tryz.func47 (by kernel_rfl) rfl args W) (fun m=>m != 1) _ (drv_ints DF.out (by unfold maxLen;omega)) ?_).mono ?_
     ·intro y c0 W _ gw hr
      unfold RI at hr
      injection hr with hr
      subst hr
      exact isDes1_any y W
     rintro e w9 ⟨rfl,g9⟩
     have GN_:=hideIt (GE_.out.trans g9)
     rw [drv_any]
     generalize hzz:pB (∀j,j<d.nets.length→cntI d.insts j+cntP d.ports j=1)=z at *
     have EZ:=hideIt (EQ.out)
     clear g9
     go_wp2
     go_ret
     exact ⟨ret_bool (by rw [EZ.out]),GN_.out⟩
end Go.Proofs.YtlnpefiipdkafaaGreatDoor
