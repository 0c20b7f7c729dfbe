/-
  A drawn block, rarely not valid.
-/
import Derived.Test.YtlnpefiipdkafaaGreatDoorHN
import Derived.Test.YtlnpefiipdkafaaGreatDoorHY
import Derived.Deep.CutBlock
namespace Go.Proofs.YtlnpefiipdkafaaGreatDoor
open Go.RowKit
/-- a block to be read -/
def BW (lo p:Nat) (u:World) (vl:Value) (cs:List CellD) (vi:Value) (xs:List InstD) (vn:Value) (ns:List ByteArray) (vp:Value) (ps:List PortD) (vw:Value) (ws:List WireD):Prop :=
 ∃bs,SR bs u (fun w=>RCells w vl cs∧RDesign w [vi,vn,vp] ⟨xs,ns,ps⟩∧RWires w vw ws)∧(∀g∈bs,lo≤g∧g<u.heap.size∧g≠p)∧SmCells cs∧SmDesign ⟨xs,ns,ps⟩
theorem BW.next {lo p:Nat} {u u':World} {ds:List Nat} {vl vi vn vp vw:Value} {cs:List CellD} {xs:List InstD} {ns:List ByteArray} {ps:List PortD} {ws:List WireD} (h:BW lo p u vl cs vi xs vn ns vp ps vw ws) (c:Chg ds u u') (hd:∀g∈ds,g<lo∨g=p):BW lo p u' vl cs vi xs vn ns vp ps vw ws:=by
 obtain ⟨bs,h1,h2,h3⟩:=h
 have g1:SameOn bs u u':=c.same (fun q hq=>(h2 q hq).2.1) (fun q hq hm=>by have:=h2 q hq;have:=hd q hm;omega)
 exact ⟨bs,h1.same g1,fun g hg=>⟨(h2 g hg).1,g1.size_lt hg (h2 g hg).2.1,(h2 g hg).2.2⟩,h3⟩
theorem BW.low {lo lo' p p':Nat} {u:World} {vl vi vn vp vw:Value} {cs:List CellD} {xs:List InstD} {ns:List ByteArray} {ps:List PortD} {ws:List WireD} (h:BW lo p u vl cs vi xs vn ns vp ps vw ws) (hl:lo'≤lo) (hp:p'<lo'):BW lo' p' u vl cs vi xs vn ns vp ps vw ws:=by
 obtain ⟨bs,h1,h2,h3⟩:=h
 exact ⟨bs,h1,fun g hg=>⟨by have:=h2 g hg;omega,(h2 g hg).2.1,by have:=h2 g hg;omega⟩,h3⟩
theorem BW.now {lo p:Nat} {u:World} {vl vi vn vp vw:Value} {cs:List CellD} {xs:List InstD} {ns:List ByteArray} {ps:List PortD} {ws:List WireD} (h:BW lo p u vl cs vi xs vn ns vp ps vw ws):RCells u vl cs∧RDesign u [vi,vn,vp] ⟨xs,ns,ps⟩∧RWires u vw ws:=by
 obtain ⟨bs,h1,_⟩:=h
 exact h1.now
theorem bw_of {lo m1 m2 m3 m4 mE lw:Nat} {u:World} {vl vi vn vp vw:Value} {cs:List CellD} {xs:List InstD} {ns:List ByteArray} {ps:List PortD} {ws:List WireD} (h:LD0 lo m1 m2 m3 m4 u vl cs vi xs vn ns vp ps) (hw:WWs m4 mE lw u vw ws) (hb:cs.length≤8∧xs.length≤6∧ns.length≤9∧ps.length≤5) (hm:m2≤m3) (hl:m4≤mE∧mE<lw):BW lo mE u vl cs vi xs vn ns vp ps vw ws:=by
 have h0:=h
 obtain ⟨bl,bp,h1,h2,h3,h4,h5,h6,h7,h8,h9⟩:=h0
 obtain ⟨⟨bs,k1,k2⟩,k3,k4⟩:=h.weak (ex:=[mE]) ⟨by omega,hm⟩ hb.1 (by omega) (by omega) (by omega) (fun g hg=>by simp at hg;omega)
 obtain ⟨bw,j1,j2⟩:=hw
 refine ⟨bs++bw,fun w g=>?_,fun g hg=>?_,k3,k4⟩
 ·obtain ⟨q1,q2,q3,q4⟩:=k1 w (g.sub fun q hq=>List.mem_append_left _ hq)
  exact ⟨q1,⟨_,_,_,rfl,q2,q3,q4⟩,j1 w (g.sub fun q hq=>List.mem_append_right _ hq)⟩
 ·rcases List.mem_append.1 hg with hg|hg
  ·have:=k2 g hg
   exact ⟨this.1,this.2.1,by have:=this.2.2;simpa using this⟩
  ·have:=j2 g hg
   exact ⟨by omega,this.1,by omega⟩
theorem oints_news {w:World} {g c n:Nat} {xs:List Int} (h:OInts w (.slice (some ⟨g,0,none⟩) n c) xs [g]):∀(j:Nat) (u:Value),(xs.map (Value.int .i64))[j]?=some u→w.cell? ((⟨g,0,none⟩:Addr).add j)=some u:=fun j u hu=>by
 rw [List.getElem?_map] at hu
 obtain ⟨z,hz,rfl⟩:=Option.map_eq_some_iff.1 hu
 have hk:=h.at hz
 rcases j with _|j
 ·simpa [Addr.add] using hk
 ·simpa [Addr.add] using hk
theorem blk_news {w:World} {g:Nat} {t:TypeId} {cs:Array Value} (h:Blk w g t cs):∀(j:Nat) (u:Value),cs.toList[j]?=some u→w.cell? ((⟨g,0,none⟩:Addr).add j)=some u:=fun j u hu=>by
 have hk:=h.cell j
 rcases j with _|j
 ·simpa [Addr.add,hk] using hu
 ·simpa [Addr.add,hk] using hu
/-- a block in its box -/
def LBE (w0 w:World) (b p:Nat) (wz:World):Prop:=∃(lo:Nat) (A0:Option Addr) (n0:Nat) (A1:Option Addr) (n1:Nat) (A2:Option Addr) (n2:Nat) (A3:Option Addr) (n3:Nat) (A4:Option Addr) (n4:Nat) (cs:List CellD) (xs:List InstD) (ns:List ByteArray) (ps:List PortD) (ws:List WireD),
 Fr [(w.heap.size,49,#[.slice none 0 0,.slice none 0 0,.slice none 0 0,.slice none 0 0,.slice none 0 0]),(p,49,#[.slice A0 cs.length n0,.slice A1 xs.length n1,.slice A2 ns.length n2,.slice A3 ps.length n3,.slice A4 ws.length n4])] w0 w b wz∧BW lo p wz (.slice A0 cs.length n0) cs (.slice A1 xs.length n1) xs (.slice A2 ns.length n2) ns (.slice A3 ps.length n3) ps (.slice A4 ws.length n4) ws∧w.heap.size+1≤lo
theorem lbe {w0 w wz:World} {b p lo l0 l1 l2 l3 l4:Nat} {A0:Option Addr} {n0:Nat} {A1:Option Addr} {n1:Nat} {A2:Option Addr} {n2:Nat} {A3:Option Addr} {n3:Nat} {A4:Option Addr} {n4:Nat} {cs:List CellD} {xs:List InstD} {ns:List ByteArray} {ps:List PortD} {ws:List WireD} (hf:Fr [(w.heap.size,49,#[.slice none 0 0,.slice none 0 0,.slice none 0 0,.slice none 0 0,.slice none 0 0]),(p,49,#[.slice A0 l0 n0,.slice A1 l1 n1,.slice A2 l2 n2,.slice A3 l3 n3,.slice A4 l4 n4])] w0 w b wz)
  (hw:BW lo p wz (.slice A0 l0 n0) cs (.slice A1 l1 n1) xs (.slice A2 l2 n2) ns (.slice A3 l3 n3) ps (.slice A4 l4 n4) ws) (hl:w.heap.size+1≤lo) (e0:l0=cs.length) (e1:l1=xs.length) (e2:l2=ns.length) (e3:l3=ps.length) (e4:l4=ws.length):LBE w0 w b p wz:=by
 subst e0 e1 e2 e3 e4
 exact ⟨lo,_,_,_,_,_,_,_,_,_,_,cs,xs,ns,ps,ws,hf,hw,hl⟩
/-- what a drawn block promises -/
def AnyPostB (w0 w:World) (b:Nat) (e:Ending) (w':World):Prop:=∃(A0:Option Addr) (n0:Nat) (A1:Option Addr) (n1:Nat) (A2:Option Addr) (n2:Nat) (A3:Option Addr) (n3:Nat) (A4:Option Addr) (n4:Nat) (cs:List CellD) (xs:List InstD) (ns:List ByteArray) (ps:List PortD) (ws:List WireD),
 e=.returned (.agg #[.slice A0 cs.length n0,.slice A1 xs.length n1,.slice A2 ns.length n2,.slice A3 ps.length n3,.slice A4 ws.length n4])∧BW (w.heap.size+1) w.heap.size w' (.slice A0 cs.length n0) cs (.slice A1 xs.length n1) xs (.slice A2 ns.length n2) ns (.slice A3 ps.length n3) ps (.slice A4 ws.length n4) ws∧SrcAt w0 w' b∧Chg [b] w w'
theorem any_finB {bx:List (Nat×TypeId×Array Value)} {w0 w wz w9:World} {b p lo:Nat} {A0:Option Addr} {n0:Nat} {A1:Option Addr} {n1:Nat} {A2:Option Addr} {n2:Nat} {A3:Option Addr} {n3:Nat} {A4:Option Addr} {n4:Nat} {cs:List CellD} {xs:List InstD} {ns:List ByteArray} {ps:List PortD} {ws:List WireD} (hf:Fr bx w0 w b wz) (hw:BW lo p wz (.slice A0 cs.length n0) cs (.slice A1 xs.length n1) xs (.slice A2 ns.length n2) ns (.slice A3 ps.length n3) ps (.slice A4 ws.length n4) ws) (hl:w.heap.size+1≤lo) (c9:Chg [w.heap.size] wz w9):AnyPostB w0 w b (.returned (.agg #[.slice A0 cs.length n0,.slice A1 xs.length n1,.slice A2 ns.length n2,.slice A3 ps.length n3,.slice A4 ws.length n4])) w9:=by
 obtain ⟨h1,h2,h3,h4,h5⟩:=hf
 refine ⟨_,_,_,_,_,_,_,_,_,_,cs,xs,ns,ps,ws,rfl,(hw.next c9 (fun g hg=>by simp at hg;omega)).low hl (by omega),h1.chg c9 (by simp;omega) (fun g hg=>by simp at hg;omega),?_⟩
 exact ⟨c9.os.trans h2.os,c9.tape.trans h2.tape,c9.output.trans h2.output,Nat.le_trans h2.size c9.size,fun q hq hn=>(c9.block q (Nat.lt_of_lt_of_le hq h2.size) (by simp;omega)).trans (h2.block q hq hn)⟩
set_option maxHeartbeats 32000000 in
set_option maxRecDepth 10000 in
theorem l07DrawAny_any {w0 w:World} {b:Nat} (h:SrcAt w0 w b):Calls Tryz.prog 57 #[.pointer (some ⟨b,0,none⟩)] w (AnyPostB w0 w b):=by
 have hb:Hid (b<w.heap.size):=hideIt h.ge.2.2
 have HG:Hid (w0.heap.size≤w.heap.size):=hideIt h.ge.2.1.size
 have HS:=hideIt (h.alloc (.cells #[.slice none 0 0,.slice none 0 0,.slice none 0 0,.slice none 0 0,.slice none 0 0] 49))
 have HC:Hid (Chg [b] w (w.alloc (.cells #[.slice none 0 0,.slice none 0 0,.slice none 0 0,.slice none 0 0,.slice none 0 0] 49))):=hideIt ((Chg.refl _ _).alloc _)
 have RL:=hideIt (Blk.new w 49 #[.slice none 0 0,.slice none 0 0,.slice none 0 0,.slice none 0 0,.slice none 0 0])
 have NL0:Hid (w.heap.size∉[b]):=hideIt (by have:=hb.out;simp;omega)
 clear h
 go_enter Tryz.func57,Tryz.ntmps57
 go_wp2_with fail
 refine (l01Next_any (w0:=w0) 3 HS.out).mono ?_
 rintro e u2 ⟨r3,rfl,r3a,r3b,h_,c_⟩
 replace HS:=hideIt h_
 replace HC:=hideIt (HC.out.trans c_)
 replace RL:=hideIt (RL.out.chg c_ NL0.out)
 have Z2:Hid (w.heap.size+1≤u2.heap.size):=hideIt RL.out.lt
 clear h_ c_ r3a r3b
 go_wp2_with fail
 refine (l07Draw_any (w0:=w0) _ HS.out).mono ?_
 rintro e u3 ⟨m1,m2,m3,m4,A0,n0,A1,n1,A2,n2,A3,n3,A4,n4,cs,xs,ns,ps,ws,rfl,⟨ld,bw,ow,own⟩,⟨c8,x6,⟨y5,y9⟩,⟨p3,p5⟩,wn⟩,hm,hs,hc⟩
 have LD3:=hideIt ld
 have OW3:=hideIt ow
 have OWN:=hideIt own
 have ZM:=hideIt hm
 have M4:Hid (m4≤u3.heap.size):=hideIt (by obtain ⟨_,_,_,_,_,_,_,_,h9,_⟩:=ld;exact h9)
 have WL:5≤ws.length∧ws.length≤9:=by rw [wn];exact ⟨y5,y9⟩
 replace HS:=hideIt hs
 replace HC:=hideIt (HC.out.trans hc)
 replace RL:=hideIt (RL.out.chg hc NL0.out)
 have Z3:Hid (u2.heap.size≤u3.heap.size):=hideIt hc.size
 clear ld ow own hm hs hc wn
 go_upto_region 2 with fail
 refine at_c (fun u=>Fr [(w.heap.size,49,#[.slice none 0 0,.slice none 0 0,.slice none 0 0,.slice none 0 0,.slice none 0 0]),(u3.heap.size,49,#[.slice A0 cs.length n0,.slice A1 xs.length n1,.slice A2 ns.length n2,.slice A3 ps.length n3,.slice A4 ws.length n4])] w0 w b u∧LD0 (u2.heap.size+1) m1 m2 m3 m4 u (.slice A0 cs.length n0) cs (.slice A1 xs.length n1) xs (.slice A2 ns.length n2) ns (.slice A3 ps.length n3) ps∧OList 4 56 OWireB u (.slice A4 ws.length n4) ws bw∧u3.heap.size+1=u.heap.size) ⟨⟨HS.out.alloc _,HC.out.alloc _,fun q hq=>?_,hb.out,HG.out⟩,LD3.out.chg (Chg.of_grows (bs:=[]) ((Grows.refl _).alloc _)) (by simp) ZM.out,OList.same OW3.out ((Chg.of_grows (bs:=[]) ((Grows.refl _).alloc _)).same (fun q hq=>(OWN.out.2 q hq).2) (by simp)) (fun _ _ _ h g=>h.same g),by simp⟩ (fun u5 hu=>?_)
 ·simp only [List.mem_cons,List.not_mem_nil,or_false] at hq
  have:=Z2.out
  have:=Z3.out
  rcases hq with rfl|rfl
  ·exact ⟨RL.out.grows ((Grows.refl _).alloc _),by dsimp only;omega⟩
  ·exact ⟨Blk.new _ _ _,by dsimp only;omega⟩
 obtain ⟨f5,l5,o5,z5⟩:=hu
 obtain ⟨p,hp⟩:∃p,p=u3.heap.size:=⟨_,rfl⟩
 rw [←hp] at f5 z5 OWN M4 Z3 ⊢
 have FR:=hideIt f5
 have LD:=hideIt l5
 have OW:=hideIt o5
 have PZ:Hid (p+1≤u5.heap.size):=hideIt (by omega)
 have LO:Hid (w.heap.size+1≤u2.heap.size+1∧u2.heap.size+1≤m4):=hideIt (by obtain ⟨_,_,_,_,_,_,_,h8,_,h9,h10⟩:=l5;have:=Z2.out;have:=ZM.out;omega)
 have NQ:Hid (∀q∈[b],q<u2.heap.size+1∨(m1≤q∧q<m2)∨m4≤q):=hideIt (fun q hq=>by simp at hq;have:=hb.out;have:=Z2.out;omega)
 have NW:Hid (∀q∈[b],q<m4∨p≤q):=hideIt (fun q hq=>by simp at hq;have:=hb.out;have:=LO.out;omega)
 clear f5 l5 o5 z5 HS HC RL LD3 OW3 hp
 have KD:=hideIt (FR.out.2.2.1 (p,49,#[.slice A0 cs.length n0,.slice A1 xs.length n1,.slice A2 ns.length n2,.slice A3 ps.length n3,.slice A4 ws.length n4]) (by simp)).1
 have fD:=KD.out.frozen
 have lD:=KD.out.lt
 have d0:=KD.out.cell 0
 have d1:=KD.out.cell 1
 have d2:=KD.out.cell 2
 have d3:=KD.out.cell 3
 have d4:=KD.out.cell 4
 simp at d0 d1 d2 d3 d4
 go_wp2_with fail
 refine (l01Next_any (w0:=w0) _ FR.out.1).mono ?_
 rintro e u6 ⟨k_,rfl,k_a,k_b,h_,c_⟩
 replace FR:=hideIt (FR.out.next c_ h_)
 replace LD:=hideIt (LD.out.chg c_ NQ.out ZM.out)
 replace OW:=hideIt (OList.same OW.out (c_.same (fun q hq=>by have:=OWN.out.2 q hq;have:=PZ.out;omega) (fun q hq hm=>by have:=OWN.out.2 q hq;have:=NW.out q hm;omega)) (fun _ _ _ h g=>h.same g))
 replace PZ:Hid (p+1≤u6.heap.size):=hideIt (by have:=PZ.out;have:=c_.size;omega)
 clear h_ c_
 have kc:=k_b (by omega)
 obtain ⟨k,rfl⟩:∃k:Nat,k_=(k:Int):=⟨k_.toNat,by omega⟩
 have kx:k<ws.length:=by omega
 clear k_a k_b
 go_wp2_with fail
 refine (l01Next_any (w0:=w0) 20 FR.out.1).mono ?_
 rintro e u7 ⟨r,rfl,ra,rb,h_,c_⟩
 replace FR:=hideIt (FR.out.next c_ h_)
 replace LD:=hideIt (LD.out.chg c_ NQ.out ZM.out)
 replace OW:=hideIt (OList.same OW.out (c_.same (fun q hq=>by have:=OWN.out.2 q hq;have:=PZ.out;omega) (fun q hq hm=>by have:=OWN.out.2 q hq;have:=NW.out q hm;omega)) (fun _ _ _ h g=>h.same g))
 replace PZ:Hid (p+1≤u7.heap.size):=hideIt (by have:=PZ.out;have:=c_.size;omega)
 clear h_ c_
 clear rb
 clear KD fD lD d0 d1 d2 d3 d4
 obtain ⟨x,hx⟩:∃x,ws[k]?=some x:=⟨_,List.getElem?_eq_getElem kx⟩
 obtain ⟨gw,cw,g0,c0,g1,c1,g2,c2,g3,c3,ev,⟨nd,hin⟩,⟨⟨q1,q8⟩,qr,qc,qs⟩,lcw,CEL,TP,TR,TC,TS⟩:=wire_at OW.out OWN.out (by have:=PZ.out;omega) hx
 have e4:A4=some ⟨gw,0,none⟩:=by injection ev
 have e5:n4=cw:=by injection ev
 subst e4 e5
 have HIN:Hid ((m4≤gw∧gw<p)∧(m4≤g0∧g0<p)∧(m4≤g1∧g1<p)∧(m4≤g2∧g2<p)∧(m4≤g3∧g3<p)):=hideIt ⟨hin _ (by simp),hin _ (by simp),hin _ (by simp),hin _ (by simp),hin _ (by simp)⟩
 have ND:=hideIt nd
 have CE:=hideIt CEL
 have TP_:=hideIt TP
 have TR_:=hideIt TR
 have TC_:=hideIt TC
 have TS_:=hideIt TS
 have kxi:(k:Int)<(ws.length:Int):=by omega
 clear ev nd hin CEL TP TR TC TS hx
 go_upto_block 0 with fail
 go_cut [4] (fun _ wx=>LBE w0 w b p wx)
 case first =>
  rcases (by omega:r=0∨r=1∨r=2∨r=3∨r=4∨r=5∨6≤r) with rfl|rfl|rfl|rfl|rfl|rfl|rd
  ·have KD:=hideIt (FR.out.2.2.1 (p,49,#[.slice A0 cs.length n0,.slice A1 xs.length n1,.slice A2 ns.length n2,.slice A3 ps.length n3,.slice (some ⟨gw,0,none⟩) ws.length n4]) (by simp)).1
   have fD:=KD.out.frozen
   have lD:=KD.out.lt
   have d0:=KD.out.cell 0
   have d1:=KD.out.cell 1
   have d2:=KD.out.cell 2
   have d3:=KD.out.cell 3
   have d4:=KD.out.cell 4
   simp at d0 d1 d2 d3 d4
   have l1n:1≤ws.length:=by omega
   have l1c:1≤n4:=by omega
   have FRX:Hid (Fr [(w.heap.size,49,#[.slice none 0 0,.slice none 0 0,.slice none 0 0,.slice none 0 0,.slice none 0 0]),(p,49,#[.slice A0 cs.length n0,.slice A1 xs.length n1,.slice A2 ns.length n2,.slice A3 ps.length n3,.slice (some ⟨gw,0+4,none⟩) (ws.length - 1) (n4 - 1)])] w0 w b (u7.setCell ⟨p,4,none⟩ (.slice (some ⟨gw,0+4,none⟩) (ws.length - 1) (n4 - 1)))):=hideIt (Fr.put FR.out ((Chg.refl _ _).setCell (by simp) _) (KD.out.setE (i:=4) rfl) (by dsimp only;have:=LO.out;have:=M4.out;omega))
   go_wp2_with fail
   go_meet
   exact lbe FRX.out (bw_of (LD.out.chg ((Chg.refl [p] _).setCell (by simp) _) (fun q hq=>by simp at hq;have:=M4.out;omega) ZM.out) ((WWs.tail (wires_read (lo:=u7.heap.size) OW.out OWN.out (by have:=PZ.out;omega) (Chg.refl [] _) (by simp)) (by omega)).next (lo:=u7.heap.size) ((Chg.refl [p] _).setCell (by simp) _) (fun q hq=>by simp at hq;have:=PZ.out;omega)) ⟨c8,x6,y9,by first|exact p5|(simp;exact p5)⟩ ZM.out ⟨M4.out,by have:=PZ.out;omega⟩) LO.out.1 rfl rfl rfl (by simp) (by simp)
  ·have KD:=hideIt (FR.out.2.2.1 (p,49,#[.slice A0 cs.length n0,.slice A1 xs.length n1,.slice A2 ns.length n2,.slice A3 ps.length n3,.slice (some ⟨gw,0,none⟩) ws.length n4]) (by simp)).1
   have fD:=KD.out.frozen
   have lD:=KD.out.lt
   have d0:=KD.out.cell 0
   have d1:=KD.out.cell 1
   have d2:=KD.out.cell 2
   have d3:=KD.out.cell 3
   have d4:=KD.out.cell 4
   simp at d0 d1 d2 d3 d4
   obtain ⟨⟨w0_,w1_,w2_,w3_⟩,fw,o0,o1,o2,o3⟩:=CE.out _ [] (Chg.refl _ _) (by simp)
   have CB:Hid (Chg [b] u7 u7):=hideIt (Chg.refl _ _)
   
   have HK:Hid (∀w',Chg [b,gw] u7 w'→w'.cell? ⟨p,4,none⟩=some (.slice (some ⟨gw,0,none⟩) ws.length n4)):=hideIt (fun w' c=>by
    have hp:=HIN.out
    have hm:=M4.out
    have hl:=LO.out
    have hb_:=hb.out
    exact c.cell d4 (by simp;omega))
   have gg:Chg [b,gw] u7 u7:=Chg.refl _ _
   clear o0 o1 o2 o3 fw w0_ w1_ w2_ w3_
   clear KD fD lD d0 d1 d2 d3 d4
   go_upto_region 7 with fail
   refine wp_region_held_drew (S:=(fun w'=>w'.cell? ⟨p,4,none⟩=some (.slice (some ⟨gw,0,none⟩) ws.length n4))) (by kernel_rfl) ?_ (fun hh0=>?_)
   ·(try dsimp only);refine HK.out _ ?_;(repeat with_reducible (first|exact gg|exact Chg.refl _ _|refine Chg.drew ?_|refine Chg.alloc ?_ _|refine Chg.setCell ?_ (by simp) _))
   refine regTk 0 hh0 ?_
   refine regTk 1 hh0 ?_
   refine regTk 2 hh0 ?_
   refine regTk 3 hh0 ?_
   refine regTk 4 hh0 ?_
   refine regTk 5 hh0 ?_
   refine regTk 6 hh0 ?_
   refine regTk 7 hh0 ?_
   refine regCall2 8 10 (fun K hK=>?_) (fun K hK=>?_)
   ·obtain ⟨⟨-,-,-,w3_⟩,-⟩:=CE.out _ [b] CB.out NW.out
    go_simp
    clear w3_
    refine hK.out _ _ ?_ (fun hh1=>?_)
    ·(try dsimp only);refine HK.out _ ?_;(repeat with_reducible (first|exact gg|exact Chg.refl _ _|refine Chg.drew ?_|refine Chg.alloc ?_ _|refine Chg.setCell ?_ (by simp) _))
    clear hK K hh0
    try simp only [Act.put,List.setIfInBounds_toArray,List.set_cons_zero,List.set_cons_succ]
    refine regCall2 9 10 (fun K hK=>?_) (fun K hK=>?_)
    ·go_simp
     refine at_w (fun u=>SrcAt w0 u b∧Chg [b] u7 u) ⟨FR.out.1.drew,(Chg.refl _ _).drew⟩ (fun ua hu=>?_)
     obtain ⟨sa,ca⟩:=hu
     have CA:=CB.out.trans ca
     refine (l02Ints_row (xs:=x.sink) ua (oints_news (CE.out ua [b] CA NW.out).2.2.2.2.2) rfl (by omega)).mono ?_
     rintro e u8 ⟨va,rfl,ra,g_⟩
     have cb:=ca.trans (Chg.of_grows g_)
     have UA:Hid (u7.heap.size≤ua.heap.size):=hideIt CA.size
     have gg:Chg [b,gw] u7 u8:=gg.trans (cb.mono (by simp))
     replace FR:=hideIt (FR.out.next cb (sa.grows g_))
     replace CB:=hideIt (CB.out.trans cb)
     have RA:=hideIt ra
     obtain ⟨Aa,na,ev⟩:=own_slice ra
     subst ev
     clear sa ca CA ra g_ cb
     (try go_wp2_with fail)
     refine hK.out _ _ ?_ (fun hh2=>?_)
     ·(try dsimp only);refine HK.out _ ?_;(repeat with_reducible (first|exact gg|exact Chg.refl _ _|refine Chg.drew ?_|refine Chg.alloc ?_ _|refine Chg.setCell ?_ (by simp) _))
     clear hK K hh1
     try simp only [Act.put,List.setIfInBounds_toArray,List.set_cons_zero,List.set_cons_succ]
     refine regCall 10 (fun K hK=>?_)
     go_simp
     have FR_:=FR.out.alloc (.cells #[.int .i64 0] 2)
     have BN_:=Blk.new u8 2 #[.int .i64 0]
     have gg_:Chg [b,gw] u7 (World.alloc u8 (.cells #[.int .i64 0] 2)):=gg.alloc _
     have CB_:Chg [b] u7 (World.alloc u8 (.cells #[.int .i64 0] 2)):=CB.out.alloc _
     have nb_:(World.heap u8).size∉[b]:=by have:=FR.out.1.ge.2.2;simp;omega
     have RA_:=RA.out.alloc (.cells #[.int .i64 0] 2)
     generalize World.alloc u8 (.cells #[.int .i64 0] 2)=ux at FR_ BN_ gg_ CB_ RA_ ⊢
     replace FR:=hideIt FR_
     replace CB:=hideIt CB_
     have gg:=gg_
     have BN:=hideIt BN_
     have NBN:=hideIt nb_
     clear FR_ BN_ gg_ CB_ nb_
     replace RA:=hideIt RA_
     clear RA_
     (try go_wp2_with fail)
     refine hK.out _ _ ?_ (fun hh3=>?_)
     ·(try dsimp only);refine HK.out _ ?_;(repeat with_reducible (first|exact gg|exact Chg.refl _ _|refine Chg.drew ?_|refine Chg.alloc ?_ _|refine Chg.setCell ?_ (by simp) _))
     clear hK K hh2
     try simp only [Act.put,List.setIfInBounds_toArray,List.set_cons_zero,List.set_cons_succ]
     refine regCall 11 (fun K hK=>?_)
     obtain ⟨iI,hiI,hzI,hsI,hbI⟩:=info_parts info_i64'
     refine wp_append_at _ _ 39 rfl Tryz.underlying39 hiI hzI hsI (by rw [hbI];decide) rfl (by decide) (.slice Aa x.sink.length na) x.sink.length (x.sink.map (Value.int .i64)) rfl (ownsRow_base RA.out (Nat.zero_le _)) ⟨u8.heap.size,0,none⟩ 1 [.int .i64 0] rfl rfl (blk_news BN.out) (by intro u hu;simp at hu;subst hu;rfl) (by omega) ?_
     intro v9 u9 hrow hgrow hat
     have hlo:∀k,(Value.slice Aa x.sink.length na).ownBlock=some k→u7.heap.size≤k:=fun k e=>by have h9:=(own_ge RA.out k e).1;have:=UA.out;omega
     have C9:Hid (Chg [b] u7 u9):=hideIt (CB.out.grown hgrow (fun k e=>.inr (hlo k e)))
     have FR9:=FR.out.grown hgrow (fun k e=>by
      have h9:=hlo k e
      have:=PZ.out
      have:=M4.out
      have:=LO.out
      refine ⟨by omega,fun q hq=>?_⟩
      simp only [List.mem_cons,List.not_mem_nil,or_false] at hq
      rcases hq with rfl|rfl<;>(dsimp only;omega))
     have W9:Hid (RowI u7.heap.size u9 v9 (x.sink++[0])):=hideIt (RowI.up (lo:=0) (by unfold RowI;rw [List.length_append,List.map_append];exact hrow) (fun k e=>by
      rcases hat with h|h
      ·exact hlo k (h ▸ e)
      ·rw [h] at e
       injection e with e
       have:=CB.out.size
       omega))
     obtain ⟨a9,k9,ev,-,-,-,-,-⟩:=row_at W9.out (by simp)
     have ev2:v9=.slice (some ⟨a9,0,none⟩) (x.sink.length+1) k9:=by rw [ev,List.length_append];rfl
     subst ev2
     replace FR:=hideIt FR9
     replace CB:=C9
     have gg:Chg [b,gw] u7 u9:=C9.out.mono (by simp)
     obtain ⟨⟨-,-,-,w3_⟩,fw,-⟩:=CE.out _ [b] C9.out NW.out
     have lw:=cell_lt w3_
     simp only at lw
     clear ev hrow hgrow hat hlo FR9 C9 RA UA BN hiI hzI hsI hbI
     refine hK.out _ _ ?_ (fun hh4=>?_)
     ·(try dsimp only);refine HK.out _ ?_;(repeat with_reducible (first|exact gg|exact Chg.refl _ _|refine Chg.drew ?_|refine Chg.alloc ?_ _|refine Chg.setCell ?_ (by simp) _))
     clear hK K hh3
     try simp only [Act.put,List.setIfInBounds_toArray,List.set_cons_zero,List.set_cons_succ]
     refine regTk 12 hh4 ?_
     refine regTk 13 hh4 ?_
     refine regCall 14 (fun K hK=>?_)
     go_simp
     (try go_wp2_with fail)
     refine hK.out _ _ ?_ (fun hh5=>?_)
     ·(try dsimp only);refine HK.out _ ?_;(repeat with_reducible (first|exact gg|exact Chg.refl _ _|refine Chg.drew ?_|refine Chg.alloc ?_ _|refine Chg.setCell ?_ (by simp) _))
     clear hK K hh4
     try simp only [Act.put,List.setIfInBounds_toArray,List.set_cons_zero,List.set_cons_succ]
     refine wpAnyH_done (by kernel_rfl) ?_ _
     clear hh5 HK
     go_wp2_with fail
     go_meet
     exact lbe (FR.out.chg ((Chg.refl [gw] _).setCell (by simp) _) (fun q hq=>by
       simp at hq
       subst hq
       have:=HIN.out.1
       have:=LO.out
       refine ⟨by omega,fun q hq=>?_⟩
       simp only [List.mem_cons,List.not_mem_nil,or_false] at hq
       rcases hq with rfl|rfl<;>(dsimp only;omega))) (bw_of (LD.out.chg ((CB.out.mono (cs:=[b,gw]) (by simp)).setCell (by simp) _) (fun q hq=>by
       rcases List.mem_cons.1 hq with h9|h9
       ·exact NQ.out q (by rw [h9];simp)
       ·have e9:q=gw:=by simpa using h9
        have:=HIN.out.1
        omega) ZM.out) (TS_.out _ [b] _ (x.sink++[0]) CB.out NW.out W9.out) ⟨c8,x6,y9,by first|exact p5|(simp;exact p5)⟩ ZM.out ⟨M4.out,by have:=PZ.out;omega⟩) LO.out.1 rfl rfl rfl (by simp) (by simp)
    ·go_simp
     have FR_:=FR.out.alloc (.cells #[.int .i64 0] 2)
     have BN_:=Blk.new u7 2 #[.int .i64 0]
     have gg_:Chg [b,gw] u7 (World.alloc u7 (.cells #[.int .i64 0] 2)):=gg.alloc _
     have CB_:Chg [b] u7 (World.alloc u7 (.cells #[.int .i64 0] 2)):=CB.out.alloc _
     have nb_:(World.heap u7).size∉[b]:=by have:=FR.out.1.ge.2.2;simp;omega
     generalize World.alloc u7 (.cells #[.int .i64 0] 2)=ux at FR_ BN_ gg_ CB_ ⊢
     replace FR:=hideIt FR_
     replace CB:=hideIt CB_
     have gg:=gg_
     have BN:=hideIt BN_
     have NBN:=hideIt nb_
     clear FR_ BN_ gg_ CB_ nb_
     (try go_wp2_with fail)
     refine hK.out _ _ ?_ (fun hh2=>?_)
     ·(try dsimp only);refine HK.out _ ?_;(repeat with_reducible (first|exact gg|exact Chg.refl _ _|refine Chg.drew ?_|refine Chg.alloc ?_ _|refine Chg.setCell ?_ (by simp) _))
     clear hK K hh1
     try simp only [Act.put,List.setIfInBounds_toArray,List.set_cons_zero,List.set_cons_succ]
     refine regCall 9 (fun K hK=>?_)
     go_simp
     refine at_w (fun u=>SrcAt w0 u b∧Chg [b] ux u) ⟨FR.out.1.drew,(Chg.refl _ _).drew⟩ (fun ua hu=>?_)
     obtain ⟨sa,ca⟩:=hu
     have CA:=CB.out.trans ca
     refine (l02Ints_row (xs:=x.sink) ua (oints_news (CE.out ua [b] CA NW.out).2.2.2.2.2) rfl (by omega)).mono ?_
     rintro e u8 ⟨va,rfl,ra,g_⟩
     have cb:=ca.trans (Chg.of_grows g_)
     have UA:Hid (u7.heap.size≤ua.heap.size):=hideIt CA.size
     have gg:Chg [b,gw] u7 u8:=gg.trans (cb.mono (by simp))
     replace FR:=hideIt (FR.out.next cb (sa.grows g_))
     replace CB:=hideIt (CB.out.trans cb)
     have RA:=hideIt ra
     replace BN:=hideIt (BN.out.chg cb NBN.out)
     obtain ⟨Aa,na,ev⟩:=own_slice ra
     subst ev
     clear sa ca CA ra g_ cb
     (try go_wp2_with fail)
     refine hK.out _ _ ?_ (fun hh3=>?_)
     ·(try dsimp only);refine HK.out _ ?_;(repeat with_reducible (first|exact gg|exact Chg.refl _ _|refine Chg.drew ?_|refine Chg.alloc ?_ _|refine Chg.setCell ?_ (by simp) _))
     clear hK K hh2
     try simp only [Act.put,List.setIfInBounds_toArray,List.set_cons_zero,List.set_cons_succ]
     refine regCall 11 (fun K hK=>?_)
     obtain ⟨iI,hiI,hzI,hsI,hbI⟩:=info_parts info_i64'
     refine wp_append_at _ _ 39 rfl Tryz.underlying39 hiI hzI hsI (by rw [hbI];decide) rfl (by decide) (.slice Aa x.sink.length na) x.sink.length (x.sink.map (Value.int .i64)) rfl (ownsRow_base RA.out (Nat.zero_le _)) ⟨u7.heap.size,0,none⟩ 1 [.int .i64 0] rfl rfl (blk_news BN.out) (by intro u hu;simp at hu;subst hu;rfl) (by omega) ?_
     intro v9 u9 hrow hgrow hat
     have hlo:∀k,(Value.slice Aa x.sink.length na).ownBlock=some k→u7.heap.size≤k:=fun k e=>by have h9:=(own_ge RA.out k e).1;have:=UA.out;omega
     have C9:Hid (Chg [b] u7 u9):=hideIt (CB.out.grown hgrow (fun k e=>.inr (hlo k e)))
     have FR9:=FR.out.grown hgrow (fun k e=>by
      have h9:=hlo k e
      have:=PZ.out
      have:=M4.out
      have:=LO.out
      refine ⟨by omega,fun q hq=>?_⟩
      simp only [List.mem_cons,List.not_mem_nil,or_false] at hq
      rcases hq with rfl|rfl<;>(dsimp only;omega))
     have W9:Hid (RowI u7.heap.size u9 v9 (x.sink++[0])):=hideIt (RowI.up (lo:=0) (by unfold RowI;rw [List.length_append,List.map_append];exact hrow) (fun k e=>by
      rcases hat with h|h
      ·exact hlo k (h ▸ e)
      ·rw [h] at e
       injection e with e
       have:=CB.out.size
       omega))
     obtain ⟨a9,k9,ev,-,-,-,-,-⟩:=row_at W9.out (by simp)
     have ev2:v9=.slice (some ⟨a9,0,none⟩) (x.sink.length+1) k9:=by rw [ev,List.length_append];rfl
     subst ev2
     replace FR:=hideIt FR9
     replace CB:=C9
     have gg:Chg [b,gw] u7 u9:=C9.out.mono (by simp)
     obtain ⟨⟨-,-,-,w3_⟩,fw,-⟩:=CE.out _ [b] C9.out NW.out
     have lw:=cell_lt w3_
     simp only at lw
     clear ev hrow hgrow hat hlo FR9 C9 RA UA BN hiI hzI hsI hbI
     refine hK.out _ _ ?_ (fun hh4=>?_)
     ·(try dsimp only);refine HK.out _ ?_;(repeat with_reducible (first|exact gg|exact Chg.refl _ _|refine Chg.drew ?_|refine Chg.alloc ?_ _|refine Chg.setCell ?_ (by simp) _))
     clear hK K hh3
     try simp only [Act.put,List.setIfInBounds_toArray,List.set_cons_zero,List.set_cons_succ]
     refine regTk 12 hh4 ?_
     refine regTk 13 hh4 ?_
     refine regCall 14 (fun K hK=>?_)
     go_simp
     (try go_wp2_with fail)
     refine hK.out _ _ ?_ (fun hh5=>?_)
     ·(try dsimp only);refine HK.out _ ?_;(repeat with_reducible (first|exact gg|exact Chg.refl _ _|refine Chg.drew ?_|refine Chg.alloc ?_ _|refine Chg.setCell ?_ (by simp) _))
     clear hK K hh4
     try simp only [Act.put,List.setIfInBounds_toArray,List.set_cons_zero,List.set_cons_succ]
     refine wpAnyH_done (by kernel_rfl) ?_ _
     clear hh5 HK
     go_wp2_with fail
     go_meet
     exact lbe (FR.out.chg ((Chg.refl [gw] _).setCell (by simp) _) (fun q hq=>by
       simp at hq
       subst hq
       have:=HIN.out.1
       have:=LO.out
       refine ⟨by omega,fun q hq=>?_⟩
       simp only [List.mem_cons,List.not_mem_nil,or_false] at hq
       rcases hq with rfl|rfl<;>(dsimp only;omega))) (bw_of (LD.out.chg ((CB.out.mono (cs:=[b,gw]) (by simp)).setCell (by simp) _) (fun q hq=>by
       rcases List.mem_cons.1 hq with h9|h9
       ·exact NQ.out q (by rw [h9];simp)
       ·have e9:q=gw:=by simpa using h9
        have:=HIN.out.1
        omega) ZM.out) (TS_.out _ [b] _ (x.sink++[0]) CB.out NW.out W9.out) ⟨c8,x6,y9,by first|exact p5|(simp;exact p5)⟩ ZM.out ⟨M4.out,by have:=PZ.out;omega⟩) LO.out.1 rfl rfl rfl (by simp) (by simp)
   ·go_simp
    have FR_:=FR.out.alloc (.cells #[.int .i64 0] 2)
    have BN_:=Blk.new u7 2 #[.int .i64 0]
    have gg_:Chg [b,gw] u7 (World.alloc u7 (.cells #[.int .i64 0] 2)):=gg.alloc _
    have CB_:Chg [b] u7 (World.alloc u7 (.cells #[.int .i64 0] 2)):=CB.out.alloc _
    have nb_:(World.heap u7).size∉[b]:=by have:=FR.out.1.ge.2.2;simp;omega
    generalize World.alloc u7 (.cells #[.int .i64 0] 2)=ux at FR_ BN_ gg_ CB_ ⊢
    replace FR:=hideIt FR_
    replace CB:=hideIt CB_
    have gg:=gg_
    have BN:=hideIt BN_
    have NBN:=hideIt nb_
    clear FR_ BN_ gg_ CB_ nb_
    (try go_wp2_with fail)
    refine hK.out _ _ ?_ (fun hh1=>?_)
    ·(try dsimp only);refine HK.out _ ?_;(repeat with_reducible (first|exact gg|exact Chg.refl _ _|refine Chg.drew ?_|refine Chg.alloc ?_ _|refine Chg.setCell ?_ (by simp) _))
    clear hK K hh0
    try simp only [Act.put,List.setIfInBounds_toArray,List.set_cons_zero,List.set_cons_succ]
    refine regCall 8 (fun K hK=>?_)
    obtain ⟨⟨-,-,-,w3_⟩,-⟩:=CE.out _ [b] CB.out NW.out
    go_simp
    clear w3_
    refine hK.out _ _ ?_ (fun hh2=>?_)
    ·(try dsimp only);refine HK.out _ ?_;(repeat with_reducible (first|exact gg|exact Chg.refl _ _|refine Chg.drew ?_|refine Chg.alloc ?_ _|refine Chg.setCell ?_ (by simp) _))
    clear hK K hh1
    try simp only [Act.put,List.setIfInBounds_toArray,List.set_cons_zero,List.set_cons_succ]
    refine regCall 9 (fun K hK=>?_)
    go_simp
    refine at_w (fun u=>SrcAt w0 u b∧Chg [b] ux u) ⟨FR.out.1.drew,(Chg.refl _ _).drew⟩ (fun ua hu=>?_)
    obtain ⟨sa,ca⟩:=hu
    have CA:=CB.out.trans ca
    refine (l02Ints_row (xs:=x.sink) ua (oints_news (CE.out ua [b] CA NW.out).2.2.2.2.2) rfl (by omega)).mono ?_
    rintro e u8 ⟨va,rfl,ra,g_⟩
    have cb:=ca.trans (Chg.of_grows g_)
    have UA:Hid (u7.heap.size≤ua.heap.size):=hideIt CA.size
    have gg:Chg [b,gw] u7 u8:=gg.trans (cb.mono (by simp))
    replace FR:=hideIt (FR.out.next cb (sa.grows g_))
    replace CB:=hideIt (CB.out.trans cb)
    have RA:=hideIt ra
    replace BN:=hideIt (BN.out.chg cb NBN.out)
    obtain ⟨Aa,na,ev⟩:=own_slice ra
    subst ev
    clear sa ca CA ra g_ cb
    (try go_wp2_with fail)
    refine hK.out _ _ ?_ (fun hh3=>?_)
    ·(try dsimp only);refine HK.out _ ?_;(repeat with_reducible (first|exact gg|exact Chg.refl _ _|refine Chg.drew ?_|refine Chg.alloc ?_ _|refine Chg.setCell ?_ (by simp) _))
    clear hK K hh2
    try simp only [Act.put,List.setIfInBounds_toArray,List.set_cons_zero,List.set_cons_succ]
    refine regCall 11 (fun K hK=>?_)
    obtain ⟨iI,hiI,hzI,hsI,hbI⟩:=info_parts info_i64'
    refine wp_append_at _ _ 39 rfl Tryz.underlying39 hiI hzI hsI (by rw [hbI];decide) rfl (by decide) (.slice Aa x.sink.length na) x.sink.length (x.sink.map (Value.int .i64)) rfl (ownsRow_base RA.out (Nat.zero_le _)) ⟨u7.heap.size,0,none⟩ 1 [.int .i64 0] rfl rfl (blk_news BN.out) (by intro u hu;simp at hu;subst hu;rfl) (by omega) ?_
    intro v9 u9 hrow hgrow hat
    have hlo:∀k,(Value.slice Aa x.sink.length na).ownBlock=some k→u7.heap.size≤k:=fun k e=>by have h9:=(own_ge RA.out k e).1;have:=UA.out;omega
    have C9:Hid (Chg [b] u7 u9):=hideIt (CB.out.grown hgrow (fun k e=>.inr (hlo k e)))
    have FR9:=FR.out.grown hgrow (fun k e=>by
     have h9:=hlo k e
     have:=PZ.out
     have:=M4.out
     have:=LO.out
     refine ⟨by omega,fun q hq=>?_⟩
     simp only [List.mem_cons,List.not_mem_nil,or_false] at hq
     rcases hq with rfl|rfl<;>(dsimp only;omega))
    have W9:Hid (RowI u7.heap.size u9 v9 (x.sink++[0])):=hideIt (RowI.up (lo:=0) (by unfold RowI;rw [List.length_append,List.map_append];exact hrow) (fun k e=>by
     rcases hat with h|h
     ·exact hlo k (h ▸ e)
     ·rw [h] at e
      injection e with e
      have:=CB.out.size
      omega))
    obtain ⟨a9,k9,ev,-,-,-,-,-⟩:=row_at W9.out (by simp)
    have ev2:v9=.slice (some ⟨a9,0,none⟩) (x.sink.length+1) k9:=by rw [ev,List.length_append];rfl
    subst ev2
    replace FR:=hideIt FR9
    replace CB:=C9
    have gg:Chg [b,gw] u7 u9:=C9.out.mono (by simp)
    obtain ⟨⟨-,-,-,w3_⟩,fw,-⟩:=CE.out _ [b] C9.out NW.out
    have lw:=cell_lt w3_
    simp only at lw
    clear ev hrow hgrow hat hlo FR9 C9 RA UA BN hiI hzI hsI hbI
    refine hK.out _ _ ?_ (fun hh4=>?_)
    ·(try dsimp only);refine HK.out _ ?_;(repeat with_reducible (first|exact gg|exact Chg.refl _ _|refine Chg.drew ?_|refine Chg.alloc ?_ _|refine Chg.setCell ?_ (by simp) _))
    clear hK K hh3
    try simp only [Act.put,List.setIfInBounds_toArray,List.set_cons_zero,List.set_cons_succ]
    refine regTk 12 hh4 ?_
    refine regTk 13 hh4 ?_
    refine regCall 14 (fun K hK=>?_)
    go_simp
    (try go_wp2_with fail)
    refine hK.out _ _ ?_ (fun hh5=>?_)
    ·(try dsimp only);refine HK.out _ ?_;(repeat with_reducible (first|exact gg|exact Chg.refl _ _|refine Chg.drew ?_|refine Chg.alloc ?_ _|refine Chg.setCell ?_ (by simp) _))
    clear hK K hh4
    try simp only [Act.put,List.setIfInBounds_toArray,List.set_cons_zero,List.set_cons_succ]
    refine wpAnyH_done (by kernel_rfl) ?_ _
    clear hh5 HK
    go_wp2_with fail
    go_meet
    exact lbe (FR.out.chg ((Chg.refl [gw] _).setCell (by simp) _) (fun q hq=>by
      simp at hq
      subst hq
      have:=HIN.out.1
      have:=LO.out
      refine ⟨by omega,fun q hq=>?_⟩
      simp only [List.mem_cons,List.not_mem_nil,or_false] at hq
      rcases hq with rfl|rfl<;>(dsimp only;omega))) (bw_of (LD.out.chg ((CB.out.mono (cs:=[b,gw]) (by simp)).setCell (by simp) _) (fun q hq=>by
      rcases List.mem_cons.1 hq with h9|h9
      ·exact NQ.out q (by rw [h9];simp)
      ·have e9:q=gw:=by simpa using h9
       have:=HIN.out.1
       omega) ZM.out) (TS_.out _ [b] _ (x.sink++[0]) CB.out NW.out W9.out) ⟨c8,x6,y9,by first|exact p5|(simp;exact p5)⟩ ZM.out ⟨M4.out,by have:=PZ.out;omega⟩) LO.out.1 rfl rfl rfl (by simp) (by simp)
  ·have KD:=hideIt (FR.out.2.2.1 (p,49,#[.slice A0 cs.length n0,.slice A1 xs.length n1,.slice A2 ns.length n2,.slice A3 ps.length n3,.slice (some ⟨gw,0,none⟩) ws.length n4]) (by simp)).1
   have fD:=KD.out.frozen
   have lD:=KD.out.lt
   have d0:=KD.out.cell 0
   have d1:=KD.out.cell 1
   have d2:=KD.out.cell 2
   have d3:=KD.out.cell 3
   have d4:=KD.out.cell 4
   simp at d0 d1 d2 d3 d4
   obtain ⟨⟨w0_,w1_,w2_,w3_⟩,fw,o0,o1,o2,o3⟩:=CE.out _ [] (Chg.refl _ _) (by simp)
   have f1:=o1.fr qr
   have l1:=o1.lt g1 (by simp)
   have qrn:0<x.res.length:=qr
   have qri:(0:Int)<(x.res.length:Int):=by omega
   obtain ⟨z0,hz0⟩:∃z,x.res[0]?=some z:=⟨_,List.getElem?_eq_getElem qr⟩
   have zc:=o1.at hz0
   clear hz0 o0 o1 o2 o3
   go_wp2_with fail
   go_meet
   exact lbe (FR.out.chg ((Chg.refl [g1] _).setCell (by simp) _) (fun q hq=>by
     simp at hq
     subst hq
     have:=HIN.out.2.2.1
     have:=LO.out
     refine ⟨by omega,fun q hq=>?_⟩
     simp only [List.mem_cons,List.not_mem_nil,or_false] at hq
     rcases hq with rfl|rfl<;>(dsimp only;omega))) (bw_of (LD.out.chg ((Chg.refl [g1] _).setCell (by simp) _) (fun q hq=>by simp at hq;have:=HIN.out.2.2.1;omega) ZM.out) (TR_.out _ [] 0 1 (Chg.refl _ _) (by simp) qr) ⟨c8,x6,y9,by first|exact p5|(simp;exact p5)⟩ ZM.out ⟨M4.out,by have:=PZ.out;omega⟩) LO.out.1 rfl rfl rfl (by simp) (by simp)
  ·have qcn:0<x.cap.length:=qc
   have qci:(0:Int)<(x.cap.length:Int):=by omega
   have KD:=hideIt (FR.out.2.2.1 (p,49,#[.slice A0 cs.length n0,.slice A1 xs.length n1,.slice A2 ns.length n2,.slice A3 ps.length n3,.slice (some ⟨gw,0,none⟩) ws.length n4]) (by simp)).1
   have fD:=KD.out.frozen
   have lD:=KD.out.lt
   have d0:=KD.out.cell 0
   have d1:=KD.out.cell 1
   have d2:=KD.out.cell 2
   have d3:=KD.out.cell 3
   have d4:=KD.out.cell 4
   simp at d0 d1 d2 d3 d4
   obtain ⟨⟨w0_,w1_,w2_,w3_⟩,fw,o0,o1,o2,o3⟩:=CE.out _ [] (Chg.refl _ _) (by simp)
   have CB:Hid (Chg [b] u7 u7):=hideIt (Chg.refl _ _)
   have HK:Hid (∀w',Chg [b,g2] u7 w'→w'.cell? ⟨p,4,none⟩=some (.slice (some ⟨gw,0,none⟩) ws.length n4)∧w'.cell? ⟨gw,k * 4+2,none⟩=some (.slice (some ⟨g2,0,none⟩) x.cap.length c2)):=hideIt (fun w' c=>by
    have hp:=HIN.out
    have hm:=M4.out
    have hl:=LO.out
    have hb_:=hb.out
    have hnd:=ND.out
    simp only [List.nodup_cons,List.mem_cons,List.not_mem_nil,or_false,not_or] at hnd
    exact ⟨c.cell d4 (by simp;omega),c.cell w2_ (by simp;omega)⟩)
   have gg:Chg [b,g2] u7 u7:=Chg.refl _ _
   clear o0 o1 o2 o3 fw w0_ w1_ w2_ w3_
   clear KD fD lD d0 d1 d2 d3 d4
   go_upto_region 11 with fail
   refine wp_region_held_drew (S:=(fun w'=>w'.cell? ⟨p,4,none⟩=some (.slice (some ⟨gw,0,none⟩) ws.length n4)∧w'.cell? ⟨gw,k * 4+2,none⟩=some (.slice (some ⟨g2,0,none⟩) x.cap.length c2))) (by kernel_rfl) ?_ (fun hh0=>?_)
   ·(try dsimp only);refine HK.out _ ?_;(repeat with_reducible (first|exact gg|exact Chg.refl _ _|refine Chg.drew ?_|refine Chg.alloc ?_ _|refine Chg.setCell ?_ (by simp) _))
   refine regTk 0 hh0 ?_
   refine regTk 1 hh0 ?_
   refine regTk 2 hh0 ?_
   refine regTk 3 hh0 ?_
   refine regTk 4 hh0 ?_
   refine regTk 5 hh0 ?_
   refine regTk 7 hh0 ?_
   refine regCall2 6 8 (fun K hK=>?_) (fun K hK=>?_)
   ·go_simp
    have FR_:=FR.out.alloc (.cells #[.int .i64 (-1),.int .i64 500,.int .i64 501] 2)
    have BN_:=Blk.new u7 2 #[.int .i64 (-1),.int .i64 500,.int .i64 501]
    have gg_:Chg [b,g2] u7 (World.alloc u7 (.cells #[.int .i64 (-1),.int .i64 500,.int .i64 501] 2)):=gg.alloc _
    have CB_:Chg [b] u7 (World.alloc u7 (.cells #[.int .i64 (-1),.int .i64 500,.int .i64 501] 2)):=CB.out.alloc _
    have nb_:(World.heap u7).size∉[b]:=by have:=FR.out.1.ge.2.2;simp;omega
    generalize World.alloc u7 (.cells #[.int .i64 (-1),.int .i64 500,.int .i64 501] 2)=ux at FR_ BN_ gg_ CB_ ⊢
    replace FR:=hideIt FR_
    replace CB:=hideIt CB_
    have gg:=gg_
    have BN:=hideIt BN_
    have NBN:=hideIt nb_
    clear FR_ BN_ gg_ CB_ nb_
    (try go_wp2_with fail)
    refine hK.out _ _ ?_ (fun hh1=>?_)
    ·(try dsimp only);refine HK.out _ ?_;(repeat with_reducible (first|exact gg|exact Chg.refl _ _|refine Chg.drew ?_|refine Chg.alloc ?_ _|refine Chg.setCell ?_ (by simp) _))
    clear hK K hh0
    try simp only [Act.put,List.setIfInBounds_toArray,List.set_cons_zero,List.set_cons_succ]
    refine regCall 8 (fun K hK=>?_)
    go_simp
    refine (l01Next_any (w0:=w0) 3 FR.out.1.drew).mono ?_
    rintro e u8 ⟨m_,rfl,m_a,m_b,h_,c_⟩
    have cb:=((Chg.refl [b] ux).drew).trans c_
    replace FR:=hideIt (FR.out.next cb h_)
    replace CB:=hideIt (CB.out.trans cb)
    have gg:Chg [b,g2] u7 u8:=gg.trans ((((Chg.refl [b] ux).drew).trans c_).mono (by simp))
    replace BN:=hideIt (BN.out.chg cb NBN.out)
    have mc:=m_b (by omega)
    obtain ⟨m,rfl⟩:∃m:Nat,m_=(m:Int):=⟨m_.toNat,by omega⟩
    have m3:m<3:=by omega
    have m3i:(m:Int)<3:=by omega
    clear m_a m_b mc
    clear h_ c_ cb
    (try go_wp2_with fail)
    refine hK.out _ _ ?_ (fun hh2=>?_)
    ·(try dsimp only);refine HK.out _ ?_;(repeat with_reducible (first|exact gg|exact Chg.refl _ _|refine Chg.drew ?_|refine Chg.alloc ?_ _|refine Chg.setCell ?_ (by simp) _))
    clear hK K hh1
    try simp only [Act.put,List.setIfInBounds_toArray,List.set_cons_zero,List.set_cons_succ]
    refine regTk 9 hh2 ?_
    refine regCall 10 (fun K hK=>?_)
    obtain ⟨z,hz,-⟩:=ints3_at BN.out m3
    obtain ⟨-,-,-,-,o2,-⟩:=CE.out _ [b] CB.out NW.out
    have f0:=o2.fr qc
    have l0:=o2.lt g2 (by simp)
    obtain ⟨y0,hy0⟩:∃z,x.cap[0]?=some z:=⟨_,List.getElem?_eq_getElem qc⟩
    have yc:=o2.at hy0
    clear hy0 o2
    go_simp
    refine hK.out _ _ ?_ (fun hh3=>?_)
    ·(try dsimp only);refine HK.out _ ?_;(repeat with_reducible (first|exact gg|exact Chg.refl _ _|refine Chg.drew ?_|refine Chg.alloc ?_ _|refine Chg.setCell ?_ (by simp) _))
    clear hK K hh2
    try simp only [Act.put,List.setIfInBounds_toArray,List.set_cons_zero,List.set_cons_succ]
    refine regTk 11 hh3 ?_
    refine regCall 12 (fun K hK=>?_)
    go_simp
    (try go_wp2_with fail)
    refine hK.out _ _ ?_ (fun hh4=>?_)
    ·(try dsimp only);refine HK.out _ ?_;(repeat with_reducible (first|exact gg|exact Chg.refl _ _|refine Chg.drew ?_|refine Chg.alloc ?_ _|refine Chg.setCell ?_ (by simp) _))
    clear hK K hh3
    try simp only [Act.put,List.setIfInBounds_toArray,List.set_cons_zero,List.set_cons_succ]
    refine wpAnyH_done (by kernel_rfl) ?_ _
    clear hh4 HK
    go_wp2_with fail
    go_meet
    exact lbe (FR.out.chg ((Chg.refl [g2] _).setCell (by simp) _) (fun q hq=>by
      simp at hq
      subst hq
      have:=HIN.out.2.2.2.1
      have:=LO.out
      refine ⟨by omega,fun q hq=>?_⟩
      simp only [List.mem_cons,List.not_mem_nil,or_false] at hq
      rcases hq with rfl|rfl<;>(dsimp only;omega))) (bw_of (LD.out.chg ((CB.out.mono (cs:=[b,g2]) (by simp)).setCell (by simp) _) (fun q hq=>by
      rcases List.mem_cons.1 hq with h9|h9
      ·exact NQ.out q (by rw [h9];simp)
      ·have e9:q=g2:=by simpa using h9
       have:=HIN.out.2.2.2.1
       omega) ZM.out) (TC_.out _ [b] 0 z CB.out NW.out qc) ⟨c8,x6,y9,by first|exact p5|(simp;exact p5)⟩ ZM.out ⟨M4.out,by have:=PZ.out;omega⟩) LO.out.1 rfl rfl rfl (by simp) (by simp)
   ·go_simp
    refine (l01Next_any (w0:=w0) 3 FR.out.1.drew).mono ?_
    rintro e u8 ⟨m_,rfl,m_a,m_b,h_,c_⟩
    have cb:=((Chg.refl [b] u7).drew).trans c_
    replace FR:=hideIt (FR.out.next cb h_)
    replace CB:=hideIt (CB.out.trans cb)
    have gg:Chg [b,g2] u7 u8:=gg.trans ((((Chg.refl [b] u7).drew).trans c_).mono (by simp))
    have mc:=m_b (by omega)
    obtain ⟨m,rfl⟩:∃m:Nat,m_=(m:Int):=⟨m_.toNat,by omega⟩
    have m3:m<3:=by omega
    have m3i:(m:Int)<3:=by omega
    clear m_a m_b mc
    clear h_ c_ cb
    (try go_wp2_with fail)
    refine hK.out _ _ ?_ (fun hh1=>?_)
    ·(try dsimp only);refine HK.out _ ?_;(repeat with_reducible (first|exact gg|exact Chg.refl _ _|refine Chg.drew ?_|refine Chg.alloc ?_ _|refine Chg.setCell ?_ (by simp) _))
    clear hK K hh0
    try simp only [Act.put,List.setIfInBounds_toArray,List.set_cons_zero,List.set_cons_succ]
    refine regCall 6 (fun K hK=>?_)
    go_simp
    have FR_:=FR.out.alloc (.cells #[.int .i64 (-1),.int .i64 500,.int .i64 501] 2)
    have BN_:=Blk.new u8 2 #[.int .i64 (-1),.int .i64 500,.int .i64 501]
    have gg_:Chg [b,g2] u7 (World.alloc u8 (.cells #[.int .i64 (-1),.int .i64 500,.int .i64 501] 2)):=gg.alloc _
    have CB_:Chg [b] u7 (World.alloc u8 (.cells #[.int .i64 (-1),.int .i64 500,.int .i64 501] 2)):=CB.out.alloc _
    have nb_:(World.heap u8).size∉[b]:=by have:=FR.out.1.ge.2.2;simp;omega
    generalize World.alloc u8 (.cells #[.int .i64 (-1),.int .i64 500,.int .i64 501] 2)=ux at FR_ BN_ gg_ CB_ ⊢
    replace FR:=hideIt FR_
    replace CB:=hideIt CB_
    have gg:=gg_
    have BN:=hideIt BN_
    have NBN:=hideIt nb_
    clear FR_ BN_ gg_ CB_ nb_
    (try go_wp2_with fail)
    refine hK.out _ _ ?_ (fun hh2=>?_)
    ·(try dsimp only);refine HK.out _ ?_;(repeat with_reducible (first|exact gg|exact Chg.refl _ _|refine Chg.drew ?_|refine Chg.alloc ?_ _|refine Chg.setCell ?_ (by simp) _))
    clear hK K hh1
    try simp only [Act.put,List.setIfInBounds_toArray,List.set_cons_zero,List.set_cons_succ]
    refine regTk 9 hh2 ?_
    refine regCall 10 (fun K hK=>?_)
    obtain ⟨z,hz,-⟩:=ints3_at BN.out m3
    obtain ⟨-,-,-,-,o2,-⟩:=CE.out _ [b] CB.out NW.out
    have f0:=o2.fr qc
    have l0:=o2.lt g2 (by simp)
    obtain ⟨y0,hy0⟩:∃z,x.cap[0]?=some z:=⟨_,List.getElem?_eq_getElem qc⟩
    have yc:=o2.at hy0
    clear hy0 o2
    go_simp
    refine hK.out _ _ ?_ (fun hh3=>?_)
    ·(try dsimp only);refine HK.out _ ?_;(repeat with_reducible (first|exact gg|exact Chg.refl _ _|refine Chg.drew ?_|refine Chg.alloc ?_ _|refine Chg.setCell ?_ (by simp) _))
    clear hK K hh2
    try simp only [Act.put,List.setIfInBounds_toArray,List.set_cons_zero,List.set_cons_succ]
    refine regTk 11 hh3 ?_
    refine regCall 12 (fun K hK=>?_)
    go_simp
    (try go_wp2_with fail)
    refine hK.out _ _ ?_ (fun hh4=>?_)
    ·(try dsimp only);refine HK.out _ ?_;(repeat with_reducible (first|exact gg|exact Chg.refl _ _|refine Chg.drew ?_|refine Chg.alloc ?_ _|refine Chg.setCell ?_ (by simp) _))
    clear hK K hh3
    try simp only [Act.put,List.setIfInBounds_toArray,List.set_cons_zero,List.set_cons_succ]
    refine wpAnyH_done (by kernel_rfl) ?_ _
    clear hh4 HK
    go_wp2_with fail
    go_meet
    exact lbe (FR.out.chg ((Chg.refl [g2] _).setCell (by simp) _) (fun q hq=>by
      simp at hq
      subst hq
      have:=HIN.out.2.2.2.1
      have:=LO.out
      refine ⟨by omega,fun q hq=>?_⟩
      simp only [List.mem_cons,List.not_mem_nil,or_false] at hq
      rcases hq with rfl|rfl<;>(dsimp only;omega))) (bw_of (LD.out.chg ((CB.out.mono (cs:=[b,g2]) (by simp)).setCell (by simp) _) (fun q hq=>by
      rcases List.mem_cons.1 hq with h9|h9
      ·exact NQ.out q (by rw [h9];simp)
      ·have e9:q=g2:=by simpa using h9
       have:=HIN.out.2.2.2.1
       omega) ZM.out) (TC_.out _ [b] 0 z CB.out NW.out qc) ⟨c8,x6,y9,by first|exact p5|(simp;exact p5)⟩ ZM.out ⟨M4.out,by have:=PZ.out;omega⟩) LO.out.1 rfl rfl rfl (by simp) (by simp)
  ·obtain ⟨pl,hpl⟩:∃pl,x.parent.length=pl+1:=⟨x.parent.length - 1,by omega⟩
   have e1:(x.parent.length:Int) - 1=(pl:Int):=by omega
   have ew3:IntKind.i64.wrap (pl:Int)=(pl:Int):=IntWalk.i64_in _ (by omega)
   have kpn:pl<x.parent.length:=by omega
   have kpi:(pl:Int)<(x.parent.length:Int):=by omega
   clear hpl
   have KD:=hideIt (FR.out.2.2.1 (p,49,#[.slice A0 cs.length n0,.slice A1 xs.length n1,.slice A2 ns.length n2,.slice A3 ps.length n3,.slice (some ⟨gw,0,none⟩) ws.length n4]) (by simp)).1
   have fD:=KD.out.frozen
   have lD:=KD.out.lt
   have d0:=KD.out.cell 0
   have d1:=KD.out.cell 1
   have d2:=KD.out.cell 2
   have d3:=KD.out.cell 3
   have d4:=KD.out.cell 4
   simp at d0 d1 d2 d3 d4
   obtain ⟨⟨w0_,w1_,w2_,w3_⟩,fw,o0,o1,o2,o3⟩:=CE.out _ [] (Chg.refl _ _) (by simp)
   have CB:Hid (Chg [b] u7 u7):=hideIt (Chg.refl _ _)
   have HK:Hid (∀w',Chg [b,g0] u7 w'→w'.cell? ⟨p,4,none⟩=some (.slice (some ⟨gw,0,none⟩) ws.length n4)∧w'.cell? ⟨gw,k * 4,none⟩=some (.slice (some ⟨g0,0,none⟩) x.parent.length c0)):=hideIt (fun w' c=>by
    have hp:=HIN.out
    have hm:=M4.out
    have hl:=LO.out
    have hb_:=hb.out
    have hnd:=ND.out
    simp only [List.nodup_cons,List.mem_cons,List.not_mem_nil,or_false,not_or] at hnd
    exact ⟨c.cell d4 (by simp;omega),c.cell w0_ (by simp;omega)⟩)
   have gg:Chg [b,g0] u7 u7:=Chg.refl _ _
   clear o0 o1 o2 o3 fw w0_ w1_ w2_ w3_
   clear KD fD lD d0 d1 d2 d3 d4
   go_upto_region 13 with fail
   refine wp_region_held_drew (S:=(fun w'=>w'.cell? ⟨p,4,none⟩=some (.slice (some ⟨gw,0,none⟩) ws.length n4)∧w'.cell? ⟨gw,k * 4,none⟩=some (.slice (some ⟨g0,0,none⟩) x.parent.length c0))) (by kernel_rfl) ?_ (fun hh0=>?_)
   ·(try dsimp only);refine HK.out _ ?_;(repeat with_reducible (first|exact gg|exact Chg.refl _ _|refine Chg.drew ?_|refine Chg.alloc ?_ _|refine Chg.setCell ?_ (by simp) _))
   refine regTk 0 hh0 ?_
   refine regTk 1 hh0 ?_
   refine regTk 2 hh0 ?_
   refine regTk 3 hh0 ?_
   refine regTk 4 hh0 ?_
   refine regTk 5 hh0 ?_
   refine regTk 6 hh0 ?_
   refine regTk 7 hh0 ?_
   refine regTk 8 hh0 ?_
   refine regTk 9 hh0 ?_
   refine regTk 10 hh0 ?_
   refine regTk 11 hh0 ?_
   refine regTk 12 hh0 ?_
   refine regTk 13 hh0 ?_
   refine regTk 14 hh0 ?_
   refine regCall 15 (fun K hK=>?_)
   go_simp
   refine (l01Next_any (w0:=w0) 5 FR.out.1.drew).mono ?_
   rintro e u8 ⟨z,rfl,za,zb,h_,c_⟩
   have cb:=((Chg.refl [b] u7).drew).trans c_
   replace FR:=hideIt (FR.out.next cb h_)
   replace CB:=hideIt (CB.out.trans cb)
   have gg:Chg [b,g0] u7 u8:=cb.mono (by simp)
   have zc:=zb (by omega)
   have ewz:IntKind.i64.wrap (z - 1)=z - 1:=IntWalk.i64_in _ (by omega)
   obtain ⟨-,-,o0,-⟩:=CE.out _ [b] CB.out NW.out
   have f0:=o0.fr q1
   have l0:=o0.lt g0 (by simp)
   obtain ⟨y0,hy0⟩:∃z,x.parent[pl]?=some z:=⟨_,List.getElem?_eq_getElem kpn⟩
   have yc:=o0.at hy0
   clear hy0 o0 zb za
   clear h_ c_ cb
   (try go_wp2_with fail)
   refine hK.out _ _ ?_ (fun hh1=>?_)
   ·(try dsimp only);refine HK.out _ ?_;(repeat with_reducible (first|exact gg|exact Chg.refl _ _|refine Chg.drew ?_|refine Chg.alloc ?_ _|refine Chg.setCell ?_ (by simp) _))
   clear hK K hh0
   try simp only [Act.put,List.setIfInBounds_toArray,List.set_cons_zero,List.set_cons_succ]
   refine regTk 16 hh1 ?_
   refine regTk 17 hh1 ?_
   refine regCall 18 (fun K hK=>?_)
   go_simp
   (try go_wp2_with fail)
   refine hK.out _ _ ?_ (fun hh2=>?_)
   ·(try dsimp only);refine HK.out _ ?_;(repeat with_reducible (first|exact gg|exact Chg.refl _ _|refine Chg.drew ?_|refine Chg.alloc ?_ _|refine Chg.setCell ?_ (by simp) _))
   clear hK K hh1
   try simp only [Act.put,List.setIfInBounds_toArray,List.set_cons_zero,List.set_cons_succ]
   refine wpAnyH_done (by kernel_rfl) ?_ _
   clear hh2 HK
   go_wp2_with fail
   go_meet
   exact lbe (FR.out.chg ((Chg.refl [g0] _).setCell (by simp) _) (fun q hq=>by
     simp at hq
     subst hq
     have:=HIN.out.2.1
     have:=LO.out
     refine ⟨by omega,fun q hq=>?_⟩
     simp only [List.mem_cons,List.not_mem_nil,or_false] at hq
     rcases hq with rfl|rfl<;>(dsimp only;omega))) (bw_of (LD.out.chg ((CB.out.mono (cs:=[b,g0]) (by simp)).setCell (by simp) _) (fun q hq=>by
     rcases List.mem_cons.1 hq with h9|h9
     ·exact NQ.out q (by rw [h9];simp)
     ·have e9:q=g0:=by simpa using h9
      have:=HIN.out.2.1
      omega) ZM.out) (TP_.out _ [b] pl (z - 1) CB.out NW.out kpn) ⟨c8,x6,y9,by first|exact p5|(simp;exact p5)⟩ ZM.out ⟨M4.out,by have:=PZ.out;omega⟩) LO.out.1 rfl rfl rfl (by simp) (by simp)
  ·obtain ⟨gp,cp,pt,ev,hp,⟨qp,lp,fp⟩,⟨t0,t1,t2⟩,S3⟩:=LD.out.port (i:=0) (by omega) ZM.out
   have ev1:A3=some ⟨gp,0,none⟩:=by injection ev
   have ev3:n3=cp:=by injection ev
   subst ev1 ev3
   have SN3:=hideIt S3
   have QP:=hideIt qp
   have pl0:0<ps.length:=by omega
   have pli:(0:Int)<(ps.length:Int):=by omega
   simp only [Nat.zero_mul,Nat.zero_add] at t0 t1 t2
   clear ev S3 qp hp
   have KD:=hideIt (FR.out.2.2.1 (p,49,#[.slice A0 cs.length n0,.slice A1 xs.length n1,.slice A2 ns.length n2,.slice (some ⟨gp,0,none⟩) ps.length n3,.slice (some ⟨gw,0,none⟩) ws.length n4]) (by simp)).1
   have fD:=KD.out.frozen
   have lD:=KD.out.lt
   have d0:=KD.out.cell 0
   have d1:=KD.out.cell 1
   have d2:=KD.out.cell 2
   have d3:=KD.out.cell 3
   have d4:=KD.out.cell 4
   simp at d0 d1 d2 d3 d4
   go_wp2_with fail
   go_meet
   exact lbe (FR.out.chg ((Chg.refl [gp] _).setCell (by simp) _) (fun q hq=>by
     simp at hq
     subst hq
     have:=QP.out
     have:=LO.out
     have:=M4.out
     have:=ZM.out
     obtain ⟨_,_,_,_,_,_,_,h8,_,h9,h10⟩:=LD.out
     refine ⟨by omega,fun q hq=>?_⟩
     simp only [List.mem_cons,List.not_mem_nil,or_false] at hq
     rcases hq with rfl|rfl<;>(dsimp only;omega))) (bw_of (by have h:=SN3.out 1 (.int .i64 3) { pt with dir:=3 } (by decide) rfl rfl;simpa using h) (wires_read (lo:=u7.heap.size) OW.out OWN.out (by have:=PZ.out;omega) ((Chg.refl [gp] _).setCell (by simp) _) (fun q hq=>by simp at hq;have:=QP.out;omega)) ⟨c8,x6,y9,by first|exact p5|(simp;exact p5)⟩ ZM.out ⟨M4.out,by have:=PZ.out;omega⟩) LO.out.1 rfl rfl rfl (by simp) (rfl)
  ·have r0:(r==0)=false:=by simp;omega
   have r1:(r==1)=false:=by simp;omega
   have r2:(r==2)=false:=by simp;omega
   have r3:(r==3)=false:=by simp;omega
   have r4:(r==4)=false:=by simp;omega
   have r5:(r==5)=false:=by simp;omega
   go_wp2_with fail
   go_meet
   exact lbe FR.out (bw_of (LD.out) (wires_read (lo:=u7.heap.size) OW.out OWN.out (by have:=PZ.out;omega) (Chg.refl [] _) (by simp)) ⟨c8,x6,y9,by first|exact p5|(simp;exact p5)⟩ ZM.out ⟨M4.out,by have:=PZ.out;omega⟩) LO.out.1 rfl rfl rfl (by simp) (rfl)
 clear FR LD OW c8 x6 y5 y9 p3 p5 WL kx kxi
 obtain ⟨lo,A0,n0,A1,n1,A2,n2,A3,n3,A4,n4,cs,xs,ns,ps,ws,hf,hw,hl⟩:=hcut
 obtain ⟨wz,rfl⟩:∃y:World,y=wc:=⟨_,rfl⟩
 have FZ:=hideIt hf
 have WZ:=hideIt hw
 have LZ:=hideIt hl
 clear hf hw hl
 have KD:=hideIt (FZ.out.2.2.1 (p,49,#[.slice A0 cs.length n0,.slice A1 xs.length n1,.slice A2 ns.length n2,.slice A3 ps.length n3,.slice A4 ws.length n4]) (by simp)).1
 have R2:=hideIt (FZ.out.2.2.1 (w.heap.size,49,#[.slice none 0 0,.slice none 0 0,.slice none 0 0,.slice none 0 0,.slice none 0 0]) (by simp)).1
 have fD:=KD.out.frozen
 have lD:=KD.out.lt
 have d0:=KD.out.cell 0
 have d1:=KD.out.cell 1
 have d2:=KD.out.cell 2
 have d3:=KD.out.cell 3
 have d4:=KD.out.cell 4
 have f2:=R2.out.frozen
 have l2:=R2.out.lt
 have y0:=R2.out.cell 0
 have y1:=R2.out.cell 1
 have y2:=R2.out.cell 2
 have y3:=R2.out.cell 3
 have y4:=R2.out.cell 4
 simp at d0 d1 d2 d3 d4 y0 y1 y2 y3 y4
 go_wp2
 refine bodyPost_ret (by simp [*,results,Tryz.results57,go_sem];try rfl) rfl ?_
 exact any_finB FZ.out WZ.out LZ.out (by repeat with_reducible (first|exact Chg.refl _ _|refine Chg.setCell ?_ (by simp) _))
end Go.Proofs.YtlnpefiipdkafaaGreatDoor
/-
  Drawn arguments of the laws over blocks.
-/
namespace Go.Proofs.YtlnpefiipdkafaaGreatDoor
open Go.RowKit
theorem ints2_at {w:World} {g:Nat} {t:TypeId} {a b:Int} (h:Blk w g t #[.int .i64 a,.int .i64 b]) {q:Nat} (hq:q<2):∃z:Int,w.cell? ⟨g,q,none⟩=some (.int .i64 z):=by
 rw [h.cell]
 rcases (by omega:q=0∨q=1) with rfl|rfl
 ·exact ⟨a,rfl⟩
 ·exact ⟨b,rfl⟩
set_option maxHeartbeats 8000000 in
set_option maxRecDepth 10000 in
theorem l07DrawNet_any {w0 w:World} {b m c:Nat} {A:Option Addr} {v0 v1 v2 v3:Value} (h:SrcAt w0 w b):Calls Tryz.prog 58 #[.pointer (some ⟨b,0,none⟩),.agg #[v0,v1,v2,v3,.slice A m c]] w fun e w'=>∃z:Int,e=.returned (.int .i64 z)∧SrcAt w0 w' b∧Chg [b] w w':=by
 have hb:Hid (b<w.heap.size):=hideIt h.ge.2.2
 have HS:=hideIt (h.alloc (.cells #[v0,v1,v2,v3,.slice A m c] 49))
 have HC:Hid (Chg [b] w (w.alloc (.cells #[v0,v1,v2,v3,.slice A m c] 49))):=hideIt ((Chg.refl _ _).alloc _)
 have RB:=hideIt (Blk.new w 49 #[v0,v1,v2,v3,.slice A m c])
 have NB:Hid (w.heap.size∉[b]):=hideIt (by have:=hb.out;simp;omega)
 clear h
 go_enter Tryz.func58,Tryz.ntmps58
 go_wp2_with fail
 refine (l01Next_any (w0:=w0) 16 HS.out).mono ?_
 rintro e u1 ⟨r,rfl,ra,rb,h_,c_⟩
 replace HS:=hideIt h_
 replace HC:=hideIt (HC.out.trans c_)
 replace RB:=hideIt (RB.out.chg c_ NB.out)
 clear h_ c_ ra rb
 have f0:=RB.out.frozen
 have l0:=RB.out.lt
 have k4:=RB.out.cell 4
 simp at k4
 by_cases h0:r=0
 ·subst h0
  have gg:Chg [b] u1 u1:=Chg.refl _ _
  have HK:Hid (∀w',Chg [b] u1 w'→w'.cell? ⟨w.heap.size,4,none⟩=some (.slice A m c)):=hideIt (fun w' c=>c.cell k4 NB.out)
  have CB:Hid (Chg [b] u1 u1):=hideIt (Chg.refl _ _)
  clear f0 l0 k4
  go_upto_region 2 with fail
  refine wp_region_held_drew (S:=(fun w'=>w'.cell? ⟨w.heap.size,4,none⟩=some (.slice A m c))) (by kernel_rfl) ?_ (fun hh0=>?_)
  ·(try dsimp only);refine HK.out _ ?_;(repeat with_reducible (first|exact gg|exact Chg.refl _ _|refine Chg.drew ?_|refine Chg.alloc ?_ _))
  refine regTk 0 hh0 ?_
  refine regTk 1 hh0 ?_
  refine regTk 2 hh0 ?_
  refine regTk 4 hh0 ?_
  refine regCall2 3 5 (fun K hK=>?_) (fun K hK=>?_)
  ·go_simp
   have HS_:=HS.out.alloc (.cells #[.int .i64 (-1),.int .i64 (m:Int)] 2)
   have BN_:=Blk.new u1 2 #[.int .i64 (-1),.int .i64 (m:Int)]
   have gg_:Chg [b] u1 (World.alloc u1 (.cells #[.int .i64 (-1),.int .i64 (m:Int)] 2)):=gg.alloc _
   have nb_:(World.heap u1).size∉[b]:=by have:=HS.out.ge.2.2;simp;omega
   generalize World.alloc u1 (.cells #[.int .i64 (-1),.int .i64 (m:Int)] 2)=ux at HS_ BN_ gg_ ⊢
   replace HS:=hideIt HS_
   have gg:=gg_
   have BN:=hideIt BN_
   have NBN:=hideIt nb_
   clear HS_ BN_ gg_ nb_
   (try go_wp2_with fail)
   refine hK.out _ _ ?_ (fun hh1=>?_)
   ·(try dsimp only);refine HK.out _ ?_;(repeat with_reducible (first|exact gg|exact Chg.refl _ _|refine Chg.drew ?_|refine Chg.alloc ?_ _))
   clear hK K hh0
   try simp only [Act.put,List.setIfInBounds_toArray,List.set_cons_zero,List.set_cons_succ]
   refine regCall 5 (fun K hK=>?_)
   go_simp
   refine (l01Next_any (w0:=w0) 2 HS.out.drew).mono ?_
   rintro e u8 ⟨q_,rfl,qa,qb,h_,c_⟩
   have gg:Chg [b] u1 u8:=gg.trans (((Chg.refl [b] ux).drew).trans c_)
   replace BN:=hideIt (BN.out.chg (((Chg.refl [b] ux).drew).trans c_) NBN.out)
   replace HS:=hideIt h_
   have qc:=qb (by omega)
   obtain ⟨q,rfl⟩:∃q:Nat,q_=(q:Int):=⟨q_.toNat,by omega⟩
   have q2:q<2:=by omega
   have q2i:(q:Int)<2:=by omega
   clear qa qb qc h_ c_
   (try go_wp2_with fail)
   refine hK.out _ _ ?_ (fun hh2=>?_)
   ·(try dsimp only);refine HK.out _ ?_;(repeat with_reducible (first|exact gg|exact Chg.refl _ _|refine Chg.drew ?_|refine Chg.alloc ?_ _))
   clear hK K hh1
   try simp only [Act.put,List.setIfInBounds_toArray,List.set_cons_zero,List.set_cons_succ]
   refine regTk 6 hh2 ?_
   refine regCall 7 (fun K hK=>?_)
   obtain ⟨z,hz⟩:∃z:Int,_=some (Value.int .i64 z):=ints2_at BN.out q2
   go_simp
   refine hK.out _ _ ?_ (fun hh3=>?_)
   ·(try dsimp only);refine HK.out _ ?_;(repeat with_reducible (first|exact gg|exact Chg.refl _ _|refine Chg.drew ?_|refine Chg.alloc ?_ _))
   clear hK K hh2
   try simp only [Act.put,List.setIfInBounds_toArray,List.set_cons_zero,List.set_cons_succ]
   refine regTk 8 hh3 ?_
   refine wpAnyH_done (by kernel_rfl) ?_ _
   clear hh3 HK
   go_wp2
   refine bodyPost_ret (by simp [*,results,Tryz.results58,go_sem];try rfl) rfl ?_
   exact ⟨z,rfl,HS.out,HC.out.trans gg⟩
  ·go_simp
   refine (l01Next_any (w0:=w0) 2 HS.out.drew).mono ?_
   rintro e u8 ⟨q_,rfl,qa,qb,h_,c_⟩
   have gg:Chg [b] u1 u8:=gg.trans (((Chg.refl [b] u1).drew).trans c_)
   replace HS:=hideIt h_
   have qc:=qb (by omega)
   obtain ⟨q,rfl⟩:∃q:Nat,q_=(q:Int):=⟨q_.toNat,by omega⟩
   have q2:q<2:=by omega
   have q2i:(q:Int)<2:=by omega
   clear qa qb qc h_ c_
   (try go_wp2_with fail)
   refine hK.out _ _ ?_ (fun hh1=>?_)
   ·(try dsimp only);refine HK.out _ ?_;(repeat with_reducible (first|exact gg|exact Chg.refl _ _|refine Chg.drew ?_|refine Chg.alloc ?_ _))
   clear hK K hh0
   try simp only [Act.put,List.setIfInBounds_toArray,List.set_cons_zero,List.set_cons_succ]
   refine regCall 3 (fun K hK=>?_)
   go_simp
   have HS_:=HS.out.alloc (.cells #[.int .i64 (-1),.int .i64 (m:Int)] 2)
   have BN_:=Blk.new u8 2 #[.int .i64 (-1),.int .i64 (m:Int)]
   have gg_:Chg [b] u1 (World.alloc u8 (.cells #[.int .i64 (-1),.int .i64 (m:Int)] 2)):=gg.alloc _
   have nb_:(World.heap u8).size∉[b]:=by have:=HS.out.ge.2.2;simp;omega
   generalize World.alloc u8 (.cells #[.int .i64 (-1),.int .i64 (m:Int)] 2)=ux at HS_ BN_ gg_ ⊢
   replace HS:=hideIt HS_
   have gg:=gg_
   have BN:=hideIt BN_
   have NBN:=hideIt nb_
   clear HS_ BN_ gg_ nb_
   (try go_wp2_with fail)
   refine hK.out _ _ ?_ (fun hh2=>?_)
   ·(try dsimp only);refine HK.out _ ?_;(repeat with_reducible (first|exact gg|exact Chg.refl _ _|refine Chg.drew ?_|refine Chg.alloc ?_ _))
   clear hK K hh1
   try simp only [Act.put,List.setIfInBounds_toArray,List.set_cons_zero,List.set_cons_succ]
   refine regTk 6 hh2 ?_
   refine regCall 7 (fun K hK=>?_)
   obtain ⟨z,hz⟩:∃z:Int,_=some (Value.int .i64 z):=ints2_at BN.out q2
   go_simp
   refine hK.out _ _ ?_ (fun hh3=>?_)
   ·(try dsimp only);refine HK.out _ ?_;(repeat with_reducible (first|exact gg|exact Chg.refl _ _|refine Chg.drew ?_|refine Chg.alloc ?_ _))
   clear hK K hh2
   try simp only [Act.put,List.setIfInBounds_toArray,List.set_cons_zero,List.set_cons_succ]
   refine regTk 8 hh3 ?_
   refine wpAnyH_done (by kernel_rfl) ?_ _
   clear hh3 HK
   go_wp2
   refine bodyPost_ret (by simp [*,results,Tryz.results58,go_sem];try rfl) rfl ?_
   exact ⟨z,rfl,HS.out,HC.out.trans gg⟩
 ·have h02:(r==0)=false:=by simpa using h0
  clear h0
  go_wp2_with fail
  refine (l01Next_any (w0:=w0) _ HS.out).mono ?_
  rintro e u8 ⟨q,rfl,-,-,h_,c_⟩
  have HS8:=hideIt h_
  have HC8:=hideIt (HC.out.trans c_)
  clear h_ c_
  go_wp2
  refine bodyPost_ret (by simp [*,results,Tryz.results58,go_sem];try rfl) rfl ?_
  exact ⟨q,rfl,HS8.out,HC8.out⟩
/-- a drawn block, and where it was drawn from -/
def BlkR (w:World) (u:World) (vl:Value) (cs:List CellD) (vi:Value) (xs:List InstD) (vn:Value) (ns:List ByteArray) (vp:Value) (ps:List PortD) (vw:Value) (ws:List WireD):Prop :=
 RCells u vl cs∧RDesign u [vi,vn,vp] ⟨xs,ns,ps⟩∧RWires u vw ws∧SmCells cs∧SmDesign ⟨xs,ns,ps⟩∧Grows w u
def NodeR (w:World) (e:Ending) (w':World):Prop:=∃(A0:Option Addr) (n0:Nat) (A1:Option Addr) (n1:Nat) (A2:Option Addr) (n2:Nat) (A3:Option Addr) (n3:Nat) (A4:Option Addr) (n4:Nat) (cs:List CellD) (xs:List InstD) (ns:List ByteArray) (ps:List PortD) (ws:List WireD) (z:Int),e=.returned (.tuple #[.agg #[.slice A0 cs.length n0,.slice A1 xs.length n1,.slice A2 ns.length n2,.slice A3 ps.length n3,.slice A4 ws.length n4],.int .i64 z])∧BlkR w w' (.slice A0 cs.length n0) cs (.slice A1 xs.length n1) xs (.slice A2 ns.length n2) ns (.slice A3 ps.length n3) ps (.slice A4 ws.length n4) ws
theorem BlkR.keep {w u u':World} {vl vi vn vp vw:Value} {cs:List CellD} {xs:List InstD} {ns:List ByteArray} {ps:List PortD} {ws:List WireD} (h:BlkR w u vl cs vi xs vn ns vp ps vw ws) (g:Grows u u'):BlkR w u' vl cs vi xs vn ns vp ps vw ws:=by
 obtain ⟨h1,h2,h3,h4,h5,h6⟩:=h
 exact ⟨RCells.keep h1 g.keeps,h2.keep g.keeps,RList.keep h3 g.keeps fun _ _ h=>RWire.keep h g.keeps,h4,h5,h6.trans g⟩
theorem node_end {w u w9:World} {lo p:Nat} {vl vi vn vp vw:Value} {cs:List CellD} {xs:List InstD} {ns:List ByteArray} {ps:List PortD} {ws:List WireD} (g:Grows w u) (h:BW lo p u vl cs vi xs vn ns vp ps vw ws) (c9:Chg [w.heap.size] u w9) (hlo:w.heap.size<lo):BlkR w w9 vl cs vi xs vn ns vp ps vw ws:=by
 have h9:=h.next c9 (fun g hg=>by simp at hg;omega)
 have hn:=h9.now
 obtain ⟨_,_,_,s1,s2⟩:=h9
 exact ⟨hn.1,hn.2.1,hn.2.2,s1,s2,g.chg c9 (fun g hg=>by simp at hg;omega)⟩
set_option maxHeartbeats 8000000 in
set_option maxRecDepth 10000 in
theorem drawNodeLoads_any {v:Value} {zs:List Int} {w:World} (hx:RBytes w v zs):Calls Tryz.prog 23 #[v] w (NodeR w):=by
 have HX:=hideIt hx
 clear hx
 have R0:=hideIt (Blk.new w 49 #[.slice none 0 0,.slice none 0 0,.slice none 0 0,.slice none 0 0,.slice none 0 0])
 have G2:Hid (Grows w (w.alloc (.cells #[.slice none 0 0,.slice none 0 0,.slice none 0 0,.slice none 0 0,.slice none 0 0] 49))):=hideIt ((Grows.refl w).alloc _)
 go_enter Tryz.func23,Tryz.ntmps23
 go_wp2_with fail
 refine (l01From_at HX.out G2.out).mono ?_
 rintro e u0 ⟨b,rfl,h_,hb_,g_⟩
 have HB:Hid (w.heap.size+1≤b):=hideIt (by simpa using hb_)
 have HS:=hideIt h_
 have LB:Hid (b<u0.heap.size):=hideIt h_.ge.2.2
 replace R0:=hideIt (R0.out.grows g_)
 clear h_ hb_ g_
 have NR:Hid (w.heap.size∉[b]):=hideIt (by have:=HB.out;simp;omega)
 go_wp2_with fail
 refine (l07DrawAny_any (w0:=w) HS.out).mono ?_
 rintro e u1 ⟨A0,n0,A1,n1,A2,n2,A3,n3,A4,n4,cs,xs,ns,ps,ws,rfl,bw,h_,c_⟩
 replace HS:=hideIt h_
 replace R0:=hideIt (R0.out.chg c_ NR.out)
 have S1:Hid (u0.heap.size≤u1.heap.size):=hideIt c_.size
 have BD:=hideIt bw
 clear bw h_ c_
 go_upto_region 3 with fail
 refine at_c (fun u=>SrcAt w u b∧Blk u w.heap.size 49 #[.slice none 0 0,.slice none 0 0,.slice none 0 0,.slice none 0 0,.slice none 0 0]∧Blk u u1.heap.size 49 #[.slice A0 cs.length n0,.slice A1 xs.length n1,.slice A2 ns.length n2,.slice A3 ps.length n3,.slice A4 ws.length n4]∧BW (u0.heap.size+1) u0.heap.size u (.slice A0 cs.length n0) cs (.slice A1 xs.length n1) xs (.slice A2 ns.length n2) ns (.slice A3 ps.length n3) ps (.slice A4 ws.length n4) ws) ⟨HS.out.alloc _,R0.out.grows ((Grows.refl _).alloc _),Blk.new u1 _ _,BD.out.next (Chg.of_grows (bs:=[]) ((Grows.refl _).alloc _)) (by simp)⟩ (fun u2 hu=>?_)
 obtain ⟨s2,r2,p2,d2⟩:=hu
 replace HS:=hideIt s2
 replace R0:=hideIt r2
 have KB:=hideIt p2
 replace BD:=hideIt d2
 clear s2 r2 p2 d2
 have LL:Hid (∀w',Chg [b,w.heap.size] u2 w'→w'.cell? ⟨u1.heap.size,0,none⟩=some (.slice A0 cs.length n0)∧w'.cell? ⟨u1.heap.size,1,none⟩=some (.slice A1 xs.length n1)∧w'.cell? ⟨u1.heap.size,2,none⟩=some (.slice A2 ns.length n2)∧w'.cell? ⟨u1.heap.size,3,none⟩=some (.slice A3 ps.length n3)∧w'.cell? ⟨u1.heap.size,4,none⟩=some (.slice A4 ws.length n4)):=hideIt (fun w' c=>by
  have h1:=KB.out.chg c (by have:=HB.out;have:=LB.out;have:=S1.out;simp;omega)
  exact ⟨h1.cell 0,h1.cell 1,h1.cell 2,h1.cell 3,h1.cell 4⟩)
 have gg:Chg [b,w.heap.size] u2 u2:=Chg.refl _ _
 refine wp_region_held_drew (S:=(fun w'=>Chg [b,w.heap.size] u2 w')) (by kernel_rfl) ?_ (fun hh0=>?_)
 ·(try dsimp only);(repeat with_reducible (first|exact gg|exact Chg.refl _ _|refine Chg.drew ?_|refine Chg.alloc ?_ _|refine Chg.setCell ?_ (by simp) _))
 refine regTake 0 (v:=.agg #[.slice A0 cs.length n0,.slice A1 xs.length n1,.slice A2 ns.length n2,.slice A3 ps.length n3,.slice A4 ws.length n4]) (fun w hw=>?_) hh0 ?_
 ·obtain ⟨k0,k1,k2,k3,k4⟩:=LL.out w hw
  go_simp
 try simp only [Act.put,List.setIfInBounds_toArray,List.set_cons_zero,List.set_cons_succ]
 refine regTk 1 hh0 ?_
 refine regTake 2 (v:=.agg #[.slice A0 cs.length n0,.slice A1 xs.length n1,.slice A2 ns.length n2,.slice A3 ps.length n3,.slice A4 ws.length n4]) (fun w hw=>?_) hh0 ?_
 ·obtain ⟨k0,k1,k2,k3,k4⟩:=LL.out w hw
  go_simp
 try simp only [Act.put,List.setIfInBounds_toArray,List.set_cons_zero,List.set_cons_succ]
 refine regCall 3 (fun K hK=>?_)
 go_simp
 refine (l07DrawNet_any (w0:=w) (m:=ws.length) HS.out.drew).mono ?_
 rintro e u3 ⟨z,rfl,h_,c_⟩
 have cb:Chg [b] u2 u3:=((Chg.refl _ _).drew).trans c_
 have gg:Chg [b,w.heap.size] u2 u3:=gg.trans (cb.mono (by simp))
 replace HS:=hideIt h_
 replace R0:=hideIt (R0.out.chg cb NR.out)
 replace BD:=hideIt (BD.out.next cb (fun g hg=>.inl (by simp at hg;subst hg;have:=LB.out;omega)))
 clear h_ c_ cb
 have f0:=R0.out.frozen
 have l0:=R0.out.lt
 have r0:=R0.out.cell 0
 have r1:=R0.out.cell 1
 have r2:=R0.out.cell 2
 have r3:=R0.out.cell 3
 have r4:=R0.out.cell 4
 simp at r0 r1 r2 r3 r4
 (try go_wp2_with fail)
 refine hK.out _ _ ?_ (fun hh1=>?_)
 ·(try dsimp only);(repeat with_reducible (first|exact gg|exact Chg.refl _ _|refine Chg.drew ?_|refine Chg.alloc ?_ _|refine Chg.setCell ?_ (by simp) _))
 clear hK K hh0
 try simp only [Act.put,List.setIfInBounds_toArray,List.set_cons_zero,List.set_cons_succ]
 refine regCall 4 (fun K hK=>?_)
 go_simp
 (try go_wp2_with fail)
 refine hK.out _ _ ?_ (fun hh2=>?_)
 ·(try dsimp only);(repeat with_reducible (first|exact gg|exact Chg.refl _ _|refine Chg.drew ?_|refine Chg.alloc ?_ _|refine Chg.setCell ?_ (by simp) _))
 clear hK K hh1
 try simp only [Act.put,List.setIfInBounds_toArray,List.set_cons_zero,List.set_cons_succ]
 refine regTk 5 hh2 ?_
 refine wpAnyH_done (by kernel_rfl) ?_ _
 clear hh2 LL
 go_wp2
 refine bodyPost_ret (by simp [*,results,Tryz.results23,go_sem];try rfl) rfl ?_
 exact ⟨A0,n0,A1,n1,A2,n2,A3,n3,A4,n4,cs,xs,ns,ps,ws,_,rfl,node_end HS.out.ge.2.1 BD.out (by repeat with_reducible (first|exact Chg.refl _ _|refine Chg.drew ?_|refine Chg.setCell ?_ (by simp) _)) (by have:=HB.out;have:=LB.out;omega)⟩
end Go.Proofs.YtlnpefiipdkafaaGreatDoor
