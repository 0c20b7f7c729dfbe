/-
  A drawn library and a drawn design of it, rarely not valid.
-/
import Derived.Test.YtlnpefiipdkafaaGreatDoorHG
import Derived.Deep.CutBlock
import Derived.Test.YtlnpefiipdkafaaGreatDoorHA
namespace Go.Proofs.YtlnpefiipdkafaaGreatDoor
open Go.RowKit
/-- what the laws are given: a library and a design to be read, their memory behind w -/
def LDPost (w0 w:World) (b:Nat) (e:Ending) (w':World):Prop :=
 ∃(A0:Option Addr) (n0:Nat) (A1:Option Addr) (n1:Nat) (A2:Option Addr) (n2:Nat) (A3:Option Addr) (n3:Nat) (cs:List CellD) (xs:List InstD) (ns:List ByteArray) (ps:List PortD),e=.returned (.tuple #[.agg #[.slice A0 cs.length n0],.agg #[.slice A1 xs.length n1,.slice A2 ns.length n2,.slice A3 ps.length n3]]) ∧
  LDW w.heap.size [] w' (.slice A0 cs.length n0) cs (.slice A1 xs.length n1) xs (.slice A2 ns.length n2) ns (.slice A3 ps.length n3) ps∧(xs.length≤6∧5≤ns.length∧ns.length≤10∧3≤ps.length∧ps.length≤5)∧SrcAt w0 w' b∧Chg [b] w w'
theorem LDW.imp {lo lo':Nat} {ex:List Nat} {u:World} {vl vi vn vp:Value} {cs:List CellD} {xs:List InstD} {ns:List ByteArray} {ps:List PortD} (h:LDW lo ex u vl cs vi xs vn ns vp ps) (hl:lo'≤lo):LDW lo' [] u vl cs vi xs vn ns vp ps:=by
 obtain ⟨⟨bs,h1,h2⟩,h3⟩:=h
 exact ⟨⟨bs,h1,fun g hg=>⟨Nat.le_trans hl (h2 g hg).1,(h2 g hg).2.1,by simp⟩⟩,h3⟩
theorem strs3 {w:World} {g:Nat} {t:TypeId} {s0 s1 s2:ByteArray} (h:Blk w g t #[.string s0,.string s1,.string s2]) {q:Nat} (hq:q<3) (hz:s0.size≤100∧s1.size≤100∧s2.size≤100):∃s:ByteArray,s.size≤100∧w.cell? ⟨g,q,none⟩=some (.string s):=by
 rw [h.cell]
 rcases (by omega:q=0∨q=1∨q=2) with rfl|rfl|rfl
 ·exact ⟨s0,hz.1,rfl⟩
 ·exact ⟨s1,hz.2.1,rfl⟩
 ·exact ⟨s2,hz.2.2,rfl⟩
theorem LDW.take {lo m k c:Nat} {A:Option Addr} {ex:List Nat} {u:World} {vi vn vp:Value} {cs:List CellD} {xs:List InstD} {ns:List ByteArray} {ps:List PortD} (h:LDW lo ex u (.slice A k c) cs vi xs vn ns vp ps) (hm:m≤cs.length):LDW lo ex u (.slice A m c) (cs.take m) vi xs vn ns vp ps:=by
 obtain ⟨⟨bs,h1,h2⟩,h3,h4⟩:=h
 exact ⟨⟨bs,fun w g=>⟨RList.cut (h1 w g).1 hm,(h1 w g).2⟩,h2⟩,⟨by have:=h3.1;unfold SmL at this ⊢;rw [List.length_take];omega,fun x hx=>h3.2 x (List.mem_of_mem_take hx)⟩,h4⟩
theorem LD0.cap {lo m1 m2 m3 m4 g k c:Nat} {u:World} {vi vn vp:Value} {cs:List CellD} {xs:List InstD} {ns:List ByteArray} {ps:List PortD} (h:LD0 lo m1 m2 m3 m4 u (.slice (some ⟨g,0,none⟩) k c) cs vi xs vn ns vp ps):cs.length≤c:=by
 obtain ⟨bl,bp,h1,_⟩:=h
 rcases h1 with ⟨e,_,_⟩|⟨g',c',cs',bss,e,l1,_⟩
 ·cases e
 ·injection e with e1 e2 e3
  omega
/-- a library and a design in their boxes -/
def LDE (w0 w:World) (b p1 p4:Nat) (wz:World):Prop:=∃(A0:Option Addr) (n0:Nat) (A1:Option Addr) (n1:Nat) (A2:Option Addr) (n2:Nat) (A3:Option Addr) (n3:Nat) (cs:List CellD) (xs:List InstD) (ns:List ByteArray) (ps:List PortD),
 Fr [(w.heap.size,26,#[.slice none 0 0]),(w.heap.size+1,31,#[.slice none 0 0,.slice none 0 0,.slice none 0 0]),(p1,26,#[.slice A0 cs.length n0]),(p4,31,#[.slice A1 xs.length n1,.slice A2 ns.length n2,.slice A3 ps.length n3])] w0 w b wz∧LDW (w.heap.size+2) [p1,p4] wz (.slice A0 cs.length n0) cs (.slice A1 xs.length n1) xs (.slice A2 ns.length n2) ns (.slice A3 ps.length n3) ps∧(xs.length≤6∧5≤ns.length∧ns.length≤10∧3≤ps.length∧ps.length≤5)
theorem lde {w0 w wz:World} {b p1 p4 l0 l1 l2 l3:Nat} {A0:Option Addr} {n0:Nat} {A1:Option Addr} {n1:Nat} {A2:Option Addr} {n2:Nat} {A3:Option Addr} {n3:Nat} {cs:List CellD} {xs:List InstD} {ns:List ByteArray} {ps:List PortD} (hs:Fr [(w.heap.size,26,#[.slice none 0 0]),(w.heap.size+1,31,#[.slice none 0 0,.slice none 0 0,.slice none 0 0]),(p1,26,#[.slice A0 l0 n0]),(p4,31,#[.slice A1 l1 n1,.slice A2 l2 n2,.slice A3 l3 n3])] w0 w b wz) (hw:LDW (w.heap.size+2) [p1,p4] wz (.slice A0 l0 n0) cs (.slice A1 l1 n1) xs (.slice A2 l2 n2) ns (.slice A3 l3 n3) ps)
  (e0:l0=cs.length) (e1:l1=xs.length) (e2:l2=ns.length) (e3:l3=ps.length) (hn:xs.length≤6∧5≤ns.length∧ns.length≤10∧3≤ps.length∧ps.length≤5):LDE w0 w b p1 p4 wz:=by
 subst e0 e1 e2 e3
 exact ⟨A0,n0,A1,n1,A2,n2,A3,n3,cs,xs,ns,ps,hs,hw,hn⟩
theorem ld_fin {bx:List (Nat×TypeId×Array Value)} {w0 w wz w9:World} {b l0 l1 l2 l3:Nat} {ex:List Nat} {A0:Option Addr} {n0:Nat} {A1:Option Addr} {n1:Nat} {A2:Option Addr} {n2:Nat} {A3:Option Addr} {n3:Nat} {cs:List CellD} {xs:List InstD} {ns:List ByteArray} {ps:List PortD} (hs:Fr bx w0 w b wz) (hw:LDW (w.heap.size+2) ex wz (.slice A0 l0 n0) cs (.slice A1 l1 n1) xs (.slice A2 l2 n2) ns (.slice A3 l3 n3) ps)
  (e0:l0=cs.length) (e1:l1=xs.length) (e2:l2=ns.length) (e3:l3=ps.length) (hn:xs.length≤6∧5≤ns.length∧ns.length≤10∧3≤ps.length∧ps.length≤5) (c9:Chg [w.heap.size,w.heap.size+1] wz w9) :
  LDPost w0 w b (.returned (.tuple #[.agg #[.slice A0 l0 n0],.agg #[.slice A1 l1 n1,.slice A2 l2 n2,.slice A3 l3 n3]])) w9:=by
 subst e0 e1 e2 e3
 obtain ⟨h1,h2,h3,h4,h5⟩:=hs
 refine ⟨_,_,_,_,_,_,_,_,cs,xs,ns,ps,rfl,(hw.next c9 (fun g hg=>by simp at hg;omega)).imp (by omega),hn,h1.chg c9 (by simp;omega) (fun g hg=>by simp at hg;omega),?_⟩
 exact ⟨c9.os.trans h2.os,c9.tape.trans h2.tape,c9.output.trans h2.output,Nat.le_trans h2.size c9.size,fun q hq hn=>(c9.block q (Nat.lt_of_lt_of_le hq h2.size) (by simp;omega)).trans (h2.block q hq hn)⟩
set_option maxHeartbeats 32000000 in
set_option maxRecDepth 10000 in
theorem l05DrawAny_any {w0 w:World} {b:Nat} (h:SrcAt w0 w b):Calls Tryz.prog 35 #[.pointer (some ⟨b,0,none⟩)] w (LDPost w0 w b):=by
 have hb:Hid (b<w.heap.size):=hideIt h.ge.2.2
 have HG:Hid (w0.heap.size≤w.heap.size):=hideIt h.ge.2.1.size
 have HS:=hideIt ((h.alloc (.cells #[.slice none 0 0] 26)).alloc (.cells #[.slice none 0 0,.slice none 0 0,.slice none 0 0] 31))
 have HC:Hid (Chg [b] w ((w.alloc (.cells #[.slice none 0 0] 26)).alloc (.cells #[.slice none 0 0,.slice none 0 0,.slice none 0 0] 31))):=hideIt (((Chg.refl _ _).alloc _).alloc _)
 have RL:Hid (Blk ((w.alloc (.cells #[.slice none 0 0] 26)).alloc (.cells #[.slice none 0 0,.slice none 0 0,.slice none 0 0] 31)) w.heap.size 26 #[.slice none 0 0]):=hideIt ((Blk.new w _ _).grows ((Grows.refl _).alloc _))
 have RD:Hid (Blk ((w.alloc (.cells #[.slice none 0 0] 26)).alloc (.cells #[.slice none 0 0,.slice none 0 0,.slice none 0 0] 31)) (w.heap.size+1) 31 #[.slice none 0 0,.slice none 0 0,.slice none 0 0]):=hideIt (by have e:(w.alloc (.cells #[.slice none 0 0] 26)).heap.size=w.heap.size+1:=(by simp);have h:=Blk.new (w.alloc (.cells #[.slice none 0 0] 26)) 31 #[.slice none 0 0,.slice none 0 0,.slice none 0 0];rw [e] at h;exact h)
 have NL0:Hid (w.heap.size∉[b]):=hideIt (by have:=hb.out;simp;omega)
 have ND0:Hid (w.heap.size+1∉[b]):=hideIt (by have:=hb.out;simp;omega)
 clear h
 go_enter Tryz.func35,Tryz.ntmps35
 go_wp2_with fail
 refine (l03Draw_any HS.out).mono ?_
 rintro e u1 ⟨g,n,cs,bl,rfl,cl,ol,ow,hs,hc⟩
 have CL:=hideIt cl
 have OL:=hideIt ol
 have OW:Hid (Own (w.heap.size+2) u1.heap.size bl):=hideIt (by simpa using ow)
 have Z1:Hid (w.heap.size+2≤u1.heap.size):=hideIt (by simpa using hc.size)
 replace HS:=hideIt hs
 replace HC:=hideIt (HC.out.trans hc)
 replace RL:=hideIt (RL.out.chg hc NL0.out)
 replace RD:=hideIt (RD.out.chg hc ND0.out)
 clear cl ol ow hs hc
 go_wp2_with fail
 refine at_w (fun u=>SrcAt w0 u b∧Chg [b] w u∧Blk u w.heap.size 26 #[.slice none 0 0]∧Blk u (w.heap.size+1) 31 #[.slice none 0 0,.slice none 0 0,.slice none 0 0]∧Blk u u1.heap.size 26 #[.slice (some ⟨g,0,none⟩) 8 n]∧OList 7 112 OCellB u (.slice (some ⟨g,0,none⟩) 8 n) cs bl∧u1.heap.size+1=u.heap.size)
  ⟨HS.out.alloc _,HC.out.alloc _,RL.out.grows ((Grows.refl _).alloc _),RD.out.grows ((Grows.refl _).alloc _),Blk.new _ _ _,OList.same OL.out ((Chg.of_grows (bs:=[]) ((Grows.refl _).alloc _)).same (fun g hg=>(OW.out.2 g hg).2) (by simp)) (fun _ _ _ h g=>h.keep g),by simp⟩ (fun u2 hu=>?_)
 obtain ⟨s2,c2,rl2,rd2,b2,o2,z2⟩:=hu
 refine (l01Next_any (w0:=w0) 3 s2).mono ?_
 rintro e u3 ⟨r3,rfl,r3a,r3b,h_,c_⟩
 have NB1:Hid (u1.heap.size∉[b]):=hideIt (by have:=hb.out;have:=Z1.out;simp;omega)
 replace HS:=hideIt h_
 replace HC:=hideIt (c2.trans c_)
 replace RL:=hideIt (rl2.chg c_ NL0.out)
 replace RD:=hideIt (rd2.chg c_ ND0.out)
 have BL:=hideIt (b2.chg c_ NB1.out)
 replace OL:=hideIt (OList.same o2 (c_.same (fun q hq=>by have:=OW.out.2 q hq;omega) (fun q hq hm=>by have:=OW.out.2 q hq;have:=hb.out;simp at hm;omega)) (fun _ _ _ h g=>h.keep g))
 have Z3:Hid (u1.heap.size+1≤u3.heap.size):=hideIt (by have:=c_.size;omega)
 clear s2 c2 rl2 rd2 b2 o2 z2 h_ c_ r3b r3a
 go_wp2_with fail
 refine (l05Draw_any (w0:=w0) _ HS.out).mono ?_
 rintro e u4 ⟨mid,A1,n1,A2,n2,A3,n3,xs,ns,ps,bp,rfl,df,op,owp,hm,⟨x2,x6⟩,⟨y5,y9⟩,⟨p3,p5⟩,hs,hc⟩
 have DF4:=hideIt df
 have OP4:=hideIt op
 have OWP:=hideIt owp
 have ZM:=hideIt hm
 replace HS:=hideIt hs
 replace HC:=hideIt (HC.out.trans hc)
 replace RL:=hideIt (RL.out.chg hc NL0.out)
 replace RD:=hideIt (RD.out.chg hc ND0.out)
 replace BL:=hideIt (BL.out.chg hc NB1.out)
 replace OL:=hideIt (OList.same OL.out (hc.same (fun q hq=>by have:=OW.out.2 q hq;have:=Z3.out;omega) (fun q hq hm=>by have:=OW.out.2 q hq;have:=hb.out;simp at hm;omega)) (fun _ _ _ h g=>h.keep g))
 have Z4:Hid (u3.heap.size≤u4.heap.size):=hideIt hc.size
 clear df op owp hm hs hc
 go_upto_region 3 with fail
 have MID:Hid (mid≤u4.heap.size):=hideIt (by
  obtain ⟨gp,cp,_,hg,-⟩:=OList.rowAt OP4.out (by omega)
  have:=OWP.out.2 gp hg
  omega)
 refine at_c (fun u=>Fr [(w.heap.size,26,#[.slice none 0 0]),(w.heap.size+1,31,#[.slice none 0 0,.slice none 0 0,.slice none 0 0]),(u1.heap.size,26,#[.slice (some ⟨g,0,none⟩) 8 n]),(u4.heap.size,31,#[.slice A1 xs.length n1,.slice A2 ns.length n2,.slice A3 ps.length n3])] w0 w b u∧LD0 (w.heap.size+2) u1.heap.size u3.heap.size mid u4.heap.size u (.slice (some ⟨g,0,none⟩) 8 n) cs (.slice A1 xs.length n1) xs (.slice A2 ns.length n2) ns (.slice A3 ps.length n3) ps∧u4.heap.size+1=u.heap.size) ⟨⟨HS.out.alloc _,HC.out.alloc _,fun q hq=>?_,hb.out,HG.out⟩,⟨bl,bp,OList.same OL.out ((Chg.of_grows (bs:=[]) ((Grows.refl _).alloc _)).same (fun g hg=>by have:=OW.out.2 g hg;have:=Z3.out;have:=Z4.out;omega) (by simp)) (fun _ _ _ h g=>h.keep g),OW.out,DF4.out.next (Chg.of_grows (bs:=[]) ((Grows.refl _).alloc _)) (by simp),OPortsB.same OP4.out ((Chg.of_grows (bs:=[]) ((Grows.refl _).alloc _)).same (fun g hg=>(OWP.out.2 g hg).2) (by simp)),OWP.out,by have:=Z3.out;omega,by simp,Z1.out,MID.out⟩,by simp⟩ (fun u5 hu=>?_)
 ·simp only [List.mem_cons,List.not_mem_nil,or_false] at hq
  have:=Z1.out
  have:=Z3.out
  have:=Z4.out
  rcases hq with rfl|rfl|rfl|rfl
  ·exact ⟨RL.out.grows ((Grows.refl _).alloc _),by dsimp only;omega⟩
  ·exact ⟨RD.out.grows ((Grows.refl _).alloc _),by dsimp only;omega⟩
  ·exact ⟨BL.out.grows ((Grows.refl _).alloc _),by dsimp only;omega⟩
  ·exact ⟨Blk.new _ _ _,by dsimp only;omega⟩
 obtain ⟨f5,l5,z5⟩:=hu
 have FR:=hideIt f5
 have LD:=hideIt l5
 have NQ:Hid (∀q∈[b],q<w.heap.size+2∨(u1.heap.size≤q∧q<u3.heap.size)∨u4.heap.size≤q):=hideIt (fun q hq=>by simp at hq;have:=hb.out;omega)
 clear f5 l5 z5 HS HC RL RD BL OL OW DF4 OP4 OWP
 have KD:=hideIt (FR.out.2.2.1 (u4.heap.size,31,#[.slice A1 xs.length n1,.slice A2 ns.length n2,.slice A3 ps.length n3]) (by simp)).1
 have fD:=KD.out.frozen
 have lD:=KD.out.lt
 have d0:=KD.out.cell 0
 have d1:=KD.out.cell 1
 have d2:=KD.out.cell 2
 simp at d0 d1 d2
 go_wp2_with fail
 refine (l01Next_any (w0:=w0) _ FR.out.1).mono ?_
 rintro e u6 ⟨k_,rfl,k_a,k_b,h_,c_⟩
 replace FR:=hideIt (FR.out.next c_ h_)
 replace LD:=hideIt (LD.out.chg c_ NQ.out ZM.out)
 clear h_ c_
 have kc:=k_b (by omega)
 obtain ⟨k,rfl⟩:∃k:Nat,k_=(k:Int):=⟨k_.toNat,by omega⟩
 have kx:k<xs.length:=by omega
 clear k_a k_b
 go_wp2_with fail
 refine (l01Next_any (w0:=w0) 24 FR.out.1).mono ?_
 rintro e u7 ⟨r,rfl,ra,rb,h_,c_⟩
 replace FR:=hideIt (FR.out.next c_ h_)
 replace LD:=hideIt (LD.out.chg c_ NQ.out ZM.out)
 clear h_ c_
 clear rb
 clear KD fD lD d0 d1 d2
 go_upto_block 0 with fail
 go_cut [6] (fun _ wx=>LDE w0 w b u1.heap.size u4.heap.size wx)
 case first =>
  rcases (by omega:r=0∨r=1∨r=2∨r=3∨r=4∨r=5∨r=6∨r=7∨r=8∨9≤r) with rfl|rfl|rfl|rfl|rfl|rfl|rfl|rfl|rfl|rd
  ·obtain ⟨gi,ci,gn,cn,x,n0,ev,hx,⟨qi,li,fi⟩,⟨qn,ln,fn⟩,hne,hn1,nz,⟨i0,i1,i2,i3⟩,S1,S2⟩:=LD.out.inst kx
   have ev1:A1=some ⟨gi,0,none⟩:=by injection ev
   have ev3:n1=ci:=by injection ev
   subst ev1 ev3
   clear ev
   have kxi:(k:Int)<(xs.length:Int):=by omega
   have SN1:=hideIt S1
   have SN2:=hideIt S2
   have QI:=hideIt qi
   have QN:=hideIt qn
   have HX:=hideIt hx
   clear S1 S2 qi qn hx
   have KD:=hideIt (FR.out.2.2.1 (u4.heap.size,31,#[.slice (some ⟨gi,0,none⟩) xs.length n1,.slice A2 ns.length n2,.slice A3 ps.length n3]) (by simp)).1
   have fD:=KD.out.frozen
   have lD:=KD.out.lt
   have d0:=KD.out.cell 0
   have d1:=KD.out.cell 1
   have d2:=KD.out.cell 2
   simp at d0 d1 d2
   have HK:Hid (∀w',Chg [b,gi] u7 w'→w'.cell? ⟨u4.heap.size,0,none⟩=some (.slice (some ⟨gi,0,none⟩) xs.length n1)):=hideIt (fun w' c=>c.cell d0 (by have:=QI.out;have:=MID.out;have:=hb.out;have:=Z1.out;have:=Z3.out;have:=Z4.out;simp;omega))
   clear KD fD lD d0 d1 d2
   go_upto_region 6 with fail
   refine wp_region_held_drew (S:=(fun w'=>w'.cell? ⟨u4.heap.size,0,none⟩=some (.slice (some ⟨gi,0,none⟩) xs.length n1))) (by kernel_rfl) ?_ (fun hh0=>?_)
   ·(try dsimp only);refine HK.out _ ?_;(repeat with_reducible (first|exact gg|exact Chg.refl _ _|refine Chg.drew ?_|refine Chg.alloc ?_ _|refine Chg.setCell ?_ (by simp) _))
   refine regTk 0 hh0 ?_
   refine regTk 1 hh0 ?_
   refine regTk 2 hh0 ?_
   refine regTk 3 hh0 ?_
   refine regCall 4 (fun K hK=>?_)
   go_simp
   refine (l01Next_any (w0:=w0) 10 FR.out.1.drew).mono ?_
   rintro e u8 ⟨m,rfl,ma,mb,h_,c_⟩
   have cb:=((Chg.refl [b] u7).drew).trans c_
   replace FR:=hideIt (FR.out.next cb h_)
   replace LD:=hideIt (LD.out.chg cb NQ.out ZM.out)
   have gg:Chg [b,gi] u7 u8:=cb.mono (by simp)
   have mc:=mb (by omega)
   have ewm:IntKind.i64.wrap (m - 1)=m - 1:=IntWalk.i64_in _ (by omega)
   clear h_ c_ cb
   clear li fi ln fn hne hn1 nz i0 i1 i2 i3 SN1 SN2 QI QN HX mb
   obtain ⟨g9,c9,h9,k9,x,n0,ev,hx,⟨qi,li,fi⟩,⟨qn,ln,fn⟩,hne,hn1,nz,⟨i0,i1,i2,i3⟩,S1,S2⟩:=LD.out.inst kx
   have ev1:gi=g9:=by injection ev with q1;injection q1 with q1;injection q1
   subst ev1
   clear ev
   have SN1:=hideIt S1
   have SN2:=hideIt S2
   have QI:=hideIt qi
   have QN:=hideIt qn
   have HX:=hideIt hx
   clear S1 S2 qi qn hx
   (try go_wp2_with fail)
   refine hK.out _ _ ?_ (fun hh1=>?_)
   ·(try dsimp only);refine HK.out _ ?_;(repeat with_reducible (first|exact gg|exact Chg.refl _ _|refine Chg.drew ?_|refine Chg.alloc ?_ _|refine Chg.setCell ?_ (by simp) _))
   clear hK K hh0
   try simp only [Act.put,List.setIfInBounds_toArray,List.set_cons_zero,List.set_cons_succ]
   refine regTk 5 hh1 ?_
   refine regTk 6 hh1 ?_
   refine regTk 7 hh1 ?_
   refine regCall 8 (fun K hK=>?_)
   go_simp
   (try go_wp2_with fail)
   refine hK.out _ _ ?_ (fun hh2=>?_)
   ·(try dsimp only);refine HK.out _ ?_;(repeat with_reducible (first|exact gg|exact Chg.refl _ _|refine Chg.drew ?_|refine Chg.alloc ?_ _|refine Chg.setCell ?_ (by simp) _))
   clear hK K hh1
   try simp only [Act.put,List.setIfInBounds_toArray,List.set_cons_zero,List.set_cons_succ]
   refine wpAnyH_done (by kernel_rfl) ?_ _
   clear hh2 HK
   go_wp2_with fail
   go_meet
   exact lde (A1:=(some ⟨gi,0,none⟩)) (FR.out.chg ((Chg.refl [gi] _).setCell (by simp) _) (fun q hq=>by
     simp at hq
     subst hq
     have:=QI.out
     have:=Z1.out
     have:=Z3.out
     have:=MID.out
     have:=ZM.out
     have:=Z4.out
     refine ⟨by omega,fun q hq=>?_⟩
     simp only [List.mem_cons,List.not_mem_nil,or_false] at hq
     rcases hq with rfl|rfl|rfl|rfl<;>(dsimp only;omega))) ((SN2.out 1 (.int .i64 (m - 1)) { x with cell:=m - 1 } (by decide) (fun _=>rfl) rfl nz).weak (by have:=Z1.out;have:=Z3.out;have:=ZM.out;omega) (by rw [CL.out];decide) (by first|omega|(simp;omega)) (by first|omega|(simp;omega)) (by first|omega|(simp;omega)) (fun g hg=>by have:=Z1.out;have:=Z3.out;simp at hg;omega)) (CL.out.symm) (by simp) (by simp) (by simp) (by first|omega|(simp;omega))
  ·obtain ⟨gi,ci,gn,cn,x,n0,ev,hx,⟨qi,li,fi⟩,⟨qn,ln,fn⟩,hne,hn1,nz,⟨i0,i1,i2,i3⟩,S1,S2⟩:=LD.out.inst kx
   have ev1:A1=some ⟨gi,0,none⟩:=by injection ev
   have ev3:n1=ci:=by injection ev
   subst ev1 ev3
   clear ev
   have kxi:(k:Int)<(xs.length:Int):=by omega
   have SN1:=hideIt S1
   have SN2:=hideIt S2
   have QI:=hideIt qi
   have QN:=hideIt qn
   have HX:=hideIt hx
   clear S1 S2 qi qn hx
   have KD:=hideIt (FR.out.2.2.1 (u4.heap.size,31,#[.slice (some ⟨gi,0,none⟩) xs.length n1,.slice A2 ns.length n2,.slice A3 ps.length n3]) (by simp)).1
   have fD:=KD.out.frozen
   have lD:=KD.out.lt
   have d0:=KD.out.cell 0
   have d1:=KD.out.cell 1
   have d2:=KD.out.cell 2
   simp at d0 d1 d2
   have HK:Hid (∀w',Chg [b,gn] u7 w'→w'.cell? ⟨u4.heap.size,0,none⟩=some (.slice (some ⟨gi,0,none⟩) xs.length n1)∧w'.cell? ⟨u4.heap.size,1,none⟩=some (.slice A2 ns.length n2)∧w'.cell? ⟨gi,k * 3+2,none⟩=some (.slice (some ⟨gn,0,none⟩) x.nets.length cn)):=hideIt (fun w' c=>⟨c.cell d0 (by have:=QN.out;have:=MID.out;have:=hb.out;have:=Z1.out;have:=Z3.out;have:=Z4.out;simp;omega),c.cell d1 (by have:=QN.out;have:=MID.out;have:=hb.out;have:=Z1.out;have:=Z3.out;have:=Z4.out;simp;omega),c.cell i2 (by have:=QI.out;have:=hne;have:=hb.out;have:=Z1.out;have:=Z3.out;simp;omega)⟩)
   have HKN:Hid (∀w',Chg [b,gn] u7 w'→w'.cell? ⟨gi,k * 3+2,none⟩=some (.slice (some ⟨gn,0,none⟩) x.nets.length cn)):=hideIt (fun w' c=>(HK.out w' c).2.2)
   have gg:Chg [b,gn] u7 u7:=Chg.refl _ _
   have hn1i:(0:Int)<(x.nets.length:Int):=by omega
   have hn1n:0<x.nets.length:=by omega
   clear KD fD lD d0 d1 d2
   go_upto_region 8 with fail
   refine wp_region_held_drew (S:=(fun w'=>w'.cell? ⟨u4.heap.size,0,none⟩=some (.slice (some ⟨gi,0,none⟩) xs.length n1)∧w'.cell? ⟨u4.heap.size,1,none⟩=some (.slice A2 ns.length n2)∧w'.cell? ⟨gi,k * 3+2,none⟩=some (.slice (some ⟨gn,0,none⟩) x.nets.length cn))) (by kernel_rfl) ?_ (fun hh0=>?_)
   ·(try dsimp only);refine HK.out _ ?_;(repeat with_reducible (first|exact gg|exact Chg.refl _ _|refine Chg.drew ?_|refine Chg.alloc ?_ _|refine Chg.setCell ?_ (by simp) _))
   refine regTk 0 hh0 ?_
   refine regTk 1 hh0 ?_
   refine regTk 2 hh0 ?_
   refine regTk 3 hh0 ?_
   refine regTk 4 hh0 ?_
   refine regTk 5 hh0 ?_
   refine regTk 6 hh0 ?_
   refine regTk 7 hh0 ?_
   refine regTk 8 hh0 ?_
   refine regTk 10 hh0 ?_
   refine regCall2 9 11 (fun K hK=>?_) (fun K hK=>?_)
   ·go_simp
    have FR_:=FR.out.alloc (.cells #[.int .i64 (-1),.int .i64 (ns.length:Int),.int .i64 0] 2)
    have LD_:=LD.out.chg ((Chg.refl [b] u7).alloc (.cells #[.int .i64 (-1),.int .i64 (ns.length:Int),.int .i64 0] 2)) NQ.out ZM.out
    have BN_:=Blk.new u7 2 #[.int .i64 (-1),.int .i64 (ns.length:Int),.int .i64 0]
    have gg_:Chg [b,gn] u7 (World.alloc u7 (.cells #[.int .i64 (-1),.int .i64 (ns.length:Int),.int .i64 0] 2)):=(Chg.refl _ _).alloc _
    have nb_:(World.heap u7).size∉[b]:=by have:=FR.out.1.ge.2.2;simp;omega
    generalize World.alloc u7 (.cells #[.int .i64 (-1),.int .i64 (ns.length:Int),.int .i64 0] 2)=ux at FR_ LD_ BN_ gg_ ⊢
    replace FR:=hideIt FR_
    replace LD:=hideIt LD_
    have gg:=gg_
    have BN:=hideIt BN_
    have NBN:=hideIt nb_
    clear FR_ LD_ BN_ gg_ nb_
    (try go_wp2_with fail)
    refine hK.out _ _ ?_ (fun hh1=>?_)
    ·(try dsimp only);refine HK.out _ ?_;(repeat with_reducible (first|exact gg|exact Chg.refl _ _|refine Chg.drew ?_|refine Chg.alloc ?_ _|refine Chg.setCell ?_ (by simp) _))
    clear hK K hh0
    try simp only [Act.put,List.setIfInBounds_toArray,List.set_cons_zero,List.set_cons_succ]
    refine regCall 11 (fun K hK=>?_)
    go_simp
    refine (l01Next_any (w0:=w0) 3 FR.out.1.drew).mono ?_
    rintro e u8 ⟨m_,rfl,m_a,m_b,h_,c_⟩
    have cb:=((Chg.refl [b] ux).drew).trans c_
    replace FR:=hideIt (FR.out.next cb h_)
    replace LD:=hideIt (LD.out.chg cb NQ.out ZM.out)
    have gg:Chg [b,gn] u7 u8:=gg.trans (cb.mono (by simp))
    replace BN:=hideIt (BN.out.chg cb NBN.out)
    have mc:=m_b (by omega)
    obtain ⟨m,rfl⟩:∃m:Nat,m_=(m:Int):=⟨m_.toNat,by omega⟩
    have m3:m<3:=by omega
    have m3i:(m:Int)<3:=by omega
    clear h_ c_ cb m_a m_b mc
    (try go_wp2_with fail)
    refine hK.out _ _ ?_ (fun hh2=>?_)
    ·(try dsimp only);refine HK.out _ ?_;(repeat with_reducible (first|exact gg|exact Chg.refl _ _|refine Chg.drew ?_|refine Chg.alloc ?_ _|refine Chg.setCell ?_ (by simp) _))
    clear hK K hh1
    try simp only [Act.put,List.setIfInBounds_toArray,List.set_cons_zero,List.set_cons_succ]
    refine regTk 12 hh2 ?_
    refine regCall 13 (fun K hK=>?_)
    obtain ⟨z,hz,-⟩:=ints3_at BN.out m3
    clear li fi ln fn hne hn1 nz i0 i1 i2 i3 SN1 SN2 QI QN HX
    obtain ⟨g9,c9,h9,k9,x,n0,ev,hx,⟨qi,li,fi⟩,⟨qn,ln,fn⟩,hne,hn1,nz,⟨i0,i1,i2,i3⟩,S1,S2⟩:=LD.out.inst kx
    have ev1:gi=g9:=by injection ev with q1;injection q1 with q1;injection q1
    subst ev1
    clear ev
    have SN1:=hideIt S1
    have SN2:=hideIt S2
    have QI:=hideIt qi
    have QN:=hideIt qn
    have HX:=hideIt hx
    clear S1 S2 qi qn hx
    have e2:gn=h9:=by
     have h:=HKN.out _ gg
     rw [i2] at h
     injection h with h
     injection h with h
     injection h with h
     injection h with h
     exact h.symm
    subst e2
    have hn1i:(0:Int)<(x.nets.length:Int):=by omega
    have hn1n:0<x.nets.length:=by omega
    go_simp
    refine hK.out _ _ ?_ (fun hh3=>?_)
    ·(try dsimp only);refine HK.out _ ?_;(repeat with_reducible (first|exact gg|exact Chg.refl _ _|refine Chg.drew ?_|refine Chg.alloc ?_ _|refine Chg.setCell ?_ (by simp) _))
    clear hK K hh2
    try simp only [Act.put,List.setIfInBounds_toArray,List.set_cons_zero,List.set_cons_succ]
    refine regTk 14 hh3 ?_
    refine regCall 15 (fun K hK=>?_)
    go_simp
    (try go_wp2_with fail)
    refine hK.out _ _ ?_ (fun hh4=>?_)
    ·(try dsimp only);refine HK.out _ ?_;(repeat with_reducible (first|exact gg|exact Chg.refl _ _|refine Chg.drew ?_|refine Chg.alloc ?_ _|refine Chg.setCell ?_ (by simp) _))
    clear hK K hh3
    try simp only [Act.put,List.setIfInBounds_toArray,List.set_cons_zero,List.set_cons_succ]
    refine wpAnyH_done (by kernel_rfl) ?_ _
    clear hh4 HK HKN
    go_wp2_with fail
    go_meet
    exact lde (A1:=(some ⟨gi,0,none⟩)) (FR.out.chg ((Chg.refl [gn] _).setCell (by simp) _) (fun q hq=>by
      simp at hq
      subst hq
      have:=QN.out
      have:=Z1.out
      have:=Z3.out
      have:=MID.out
      have:=ZM.out
      have:=Z4.out
      refine ⟨by omega,fun q hq=>?_⟩
      simp only [List.mem_cons,List.not_mem_nil,or_false] at hq
      rcases hq with rfl|rfl|rfl|rfl<;>(dsimp only;omega))) ((SN1.out z).weak (by have:=Z1.out;have:=Z3.out;have:=ZM.out;omega) (by rw [CL.out];decide) (by first|omega|(simp;omega)) (by first|omega|(simp;omega)) (by first|omega|(simp;omega)) (fun g hg=>by have:=Z1.out;have:=Z3.out;simp at hg;omega)) (CL.out.symm) (by simp) (by simp) (by simp) (by first|omega|(simp;omega))
   ·go_simp
    refine (l01Next_any (w0:=w0) 3 FR.out.1.drew).mono ?_
    rintro e u8 ⟨m_,rfl,m_a,m_b,h_,c_⟩
    have cb:=((Chg.refl [b] u7).drew).trans c_
    replace FR:=hideIt (FR.out.next cb h_)
    replace LD:=hideIt (LD.out.chg cb NQ.out ZM.out)
    have gg:Chg [b,gn] u7 u8:=cb.mono (by simp)
    have mc:=m_b (by omega)
    obtain ⟨m,rfl⟩:∃m:Nat,m_=(m:Int):=⟨m_.toNat,by omega⟩
    have m3:m<3:=by omega
    have m3i:(m:Int)<3:=by omega
    clear h_ c_ cb m_a m_b mc
    (try go_wp2_with fail)
    refine hK.out _ _ ?_ (fun hh1=>?_)
    ·(try dsimp only);refine HK.out _ ?_;(repeat with_reducible (first|exact gg|exact Chg.refl _ _|refine Chg.drew ?_|refine Chg.alloc ?_ _|refine Chg.setCell ?_ (by simp) _))
    clear hK K hh0
    try simp only [Act.put,List.setIfInBounds_toArray,List.set_cons_zero,List.set_cons_succ]
    refine regCall 9 (fun K hK=>?_)
    go_simp
    have FR_:=FR.out.alloc (.cells #[.int .i64 (-1),.int .i64 (ns.length:Int),.int .i64 0] 2)
    have LD_:=LD.out.chg ((Chg.refl [b] u8).alloc (.cells #[.int .i64 (-1),.int .i64 (ns.length:Int),.int .i64 0] 2)) NQ.out ZM.out
    have BN_:=Blk.new u8 2 #[.int .i64 (-1),.int .i64 (ns.length:Int),.int .i64 0]
    have gg_:Chg [b,gn] u7 (World.alloc u8 (.cells #[.int .i64 (-1),.int .i64 (ns.length:Int),.int .i64 0] 2)):=gg.alloc _
    have nb_:(World.heap u8).size∉[b]:=by have:=FR.out.1.ge.2.2;simp;omega
    generalize World.alloc u8 (.cells #[.int .i64 (-1),.int .i64 (ns.length:Int),.int .i64 0] 2)=ux at FR_ LD_ BN_ gg_ ⊢
    replace FR:=hideIt FR_
    replace LD:=hideIt LD_
    have gg:=gg_
    have BN:=hideIt BN_
    have NBN:=hideIt nb_
    clear FR_ LD_ BN_ gg_ nb_
    (try go_wp2_with fail)
    refine hK.out _ _ ?_ (fun hh2=>?_)
    ·(try dsimp only);refine HK.out _ ?_;(repeat with_reducible (first|exact gg|exact Chg.refl _ _|refine Chg.drew ?_|refine Chg.alloc ?_ _|refine Chg.setCell ?_ (by simp) _))
    clear hK K hh1
    try simp only [Act.put,List.setIfInBounds_toArray,List.set_cons_zero,List.set_cons_succ]
    refine regTk 12 hh2 ?_
    refine regCall 13 (fun K hK=>?_)
    obtain ⟨z,hz,-⟩:=ints3_at BN.out m3
    clear li fi ln fn hne hn1 nz i0 i1 i2 i3 SN1 SN2 QI QN HX
    obtain ⟨g9,c9,h9,k9,x,n0,ev,hx,⟨qi,li,fi⟩,⟨qn,ln,fn⟩,hne,hn1,nz,⟨i0,i1,i2,i3⟩,S1,S2⟩:=LD.out.inst kx
    have ev1:gi=g9:=by injection ev with q1;injection q1 with q1;injection q1
    subst ev1
    clear ev
    have SN1:=hideIt S1
    have SN2:=hideIt S2
    have QI:=hideIt qi
    have QN:=hideIt qn
    have HX:=hideIt hx
    clear S1 S2 qi qn hx
    have e2:gn=h9:=by
     have h:=HKN.out _ gg
     rw [i2] at h
     injection h with h
     injection h with h
     injection h with h
     injection h with h
     exact h.symm
    subst e2
    have hn1i:(0:Int)<(x.nets.length:Int):=by omega
    have hn1n:0<x.nets.length:=by omega
    go_simp
    refine hK.out _ _ ?_ (fun hh3=>?_)
    ·(try dsimp only);refine HK.out _ ?_;(repeat with_reducible (first|exact gg|exact Chg.refl _ _|refine Chg.drew ?_|refine Chg.alloc ?_ _|refine Chg.setCell ?_ (by simp) _))
    clear hK K hh2
    try simp only [Act.put,List.setIfInBounds_toArray,List.set_cons_zero,List.set_cons_succ]
    refine regTk 14 hh3 ?_
    refine regCall 15 (fun K hK=>?_)
    go_simp
    (try go_wp2_with fail)
    refine hK.out _ _ ?_ (fun hh4=>?_)
    ·(try dsimp only);refine HK.out _ ?_;(repeat with_reducible (first|exact gg|exact Chg.refl _ _|refine Chg.drew ?_|refine Chg.alloc ?_ _|refine Chg.setCell ?_ (by simp) _))
    clear hK K hh3
    try simp only [Act.put,List.setIfInBounds_toArray,List.set_cons_zero,List.set_cons_succ]
    refine wpAnyH_done (by kernel_rfl) ?_ _
    clear hh4 HK HKN
    go_wp2_with fail
    go_meet
    exact lde (A1:=(some ⟨gi,0,none⟩)) (FR.out.chg ((Chg.refl [gn] _).setCell (by simp) _) (fun q hq=>by
      simp at hq
      subst hq
      have:=QN.out
      have:=Z1.out
      have:=Z3.out
      have:=MID.out
      have:=ZM.out
      have:=Z4.out
      refine ⟨by omega,fun q hq=>?_⟩
      simp only [List.mem_cons,List.not_mem_nil,or_false] at hq
      rcases hq with rfl|rfl|rfl|rfl<;>(dsimp only;omega))) ((SN1.out z).weak (by have:=Z1.out;have:=Z3.out;have:=ZM.out;omega) (by rw [CL.out];decide) (by first|omega|(simp;omega)) (by first|omega|(simp;omega)) (by first|omega|(simp;omega)) (fun g hg=>by have:=Z1.out;have:=Z3.out;simp at hg;omega)) (CL.out.symm) (by simp) (by simp) (by simp) (by first|omega|(simp;omega))
  ·obtain ⟨gi,ci,gn,cn,x,n0,ev,hx,⟨qi,li,fi⟩,⟨qn,ln,fn⟩,hne,hn1,nz,⟨i0,i1,i2,i3⟩,S1,S2⟩:=LD.out.inst kx
   have ev1:A1=some ⟨gi,0,none⟩:=by injection ev
   have ev3:n1=ci:=by injection ev
   subst ev1 ev3
   clear ev
   have kxi:(k:Int)<(xs.length:Int):=by omega
   have SN1:=hideIt S1
   have SN2:=hideIt S2
   have QI:=hideIt qi
   have QN:=hideIt qn
   have HX:=hideIt hx
   clear S1 S2 qi qn hx
   have KD:=hideIt (FR.out.2.2.1 (u4.heap.size,31,#[.slice (some ⟨gi,0,none⟩) xs.length n1,.slice A2 ns.length n2,.slice A3 ps.length n3]) (by simp)).1
   have fD:=KD.out.frozen
   have lD:=KD.out.lt
   have d0:=KD.out.cell 0
   have d1:=KD.out.cell 1
   have d2:=KD.out.cell 2
   simp at d0 d1 d2
   have HK:Hid (∀w',Chg [b,gi] u7 w'→w'.cell? ⟨u4.heap.size,0,none⟩=some (.slice (some ⟨gi,0,none⟩) xs.length n1)):=hideIt (fun w' c=>c.cell d0 (by have:=QI.out;have:=MID.out;have:=hb.out;have:=Z1.out;have:=Z3.out;have:=Z4.out;simp;omega))
   have gg:Chg [b,gi] u7 u7:=Chg.refl _ _
   clear KD fD lD d0 d1 d2
   go_upto_region 10 with fail
   refine wp_region_held_drew (S:=(fun w'=>w'.cell? ⟨u4.heap.size,0,none⟩=some (.slice (some ⟨gi,0,none⟩) xs.length n1))) (by kernel_rfl) ?_ (fun hh0=>?_)
   ·(try dsimp only);refine HK.out _ ?_;(repeat with_reducible (first|exact gg|exact Chg.refl _ _|refine Chg.drew ?_|refine Chg.alloc ?_ _|refine Chg.setCell ?_ (by simp) _))
   refine regTk 0 hh0 ?_
   refine regTk 1 hh0 ?_
   refine regTk 2 hh0 ?_
   refine regTk 4 hh0 ?_
   refine regCall2 3 5 (fun K hK=>?_) (fun K hK=>?_)
   ·go_simp
    have FR_:=FR.out.alloc (.cells #[.string ⟨#[]⟩,.string ⟨#[117,48]⟩,.string ⟨#[57]⟩] 9)
    have LD_:=LD.out.chg ((Chg.refl [b] u7).alloc (.cells #[.string ⟨#[]⟩,.string ⟨#[117,48]⟩,.string ⟨#[57]⟩] 9)) NQ.out ZM.out
    have BN_:=Blk.new u7 9 #[.string ⟨#[]⟩,.string ⟨#[117,48]⟩,.string ⟨#[57]⟩]
    have gg_:Chg [b,gi] u7 (World.alloc u7 (.cells #[.string ⟨#[]⟩,.string ⟨#[117,48]⟩,.string ⟨#[57]⟩] 9)):=(Chg.refl _ _).alloc _
    have nb_:(World.heap u7).size∉[b]:=by have:=FR.out.1.ge.2.2;simp;omega
    generalize World.alloc u7 (.cells #[.string ⟨#[]⟩,.string ⟨#[117,48]⟩,.string ⟨#[57]⟩] 9)=ux at FR_ LD_ BN_ gg_ ⊢
    replace FR:=hideIt FR_
    replace LD:=hideIt LD_
    have gg:=gg_
    have BN:=hideIt BN_
    have NBN:=hideIt nb_
    clear FR_ LD_ BN_ gg_ nb_
    (try go_wp2_with fail)
    refine hK.out _ _ ?_ (fun hh1=>?_)
    ·(try dsimp only);refine HK.out _ ?_;(repeat with_reducible (first|exact gg|exact Chg.refl _ _|refine Chg.drew ?_|refine Chg.alloc ?_ _|refine Chg.setCell ?_ (by simp) _))
    clear hK K hh0
    try simp only [Act.put,List.setIfInBounds_toArray,List.set_cons_zero,List.set_cons_succ]
    refine regCall 5 (fun K hK=>?_)
    go_simp
    refine (l01Next_any (w0:=w0) 3 FR.out.1.drew).mono ?_
    rintro e u8 ⟨m_,rfl,m_a,m_b,h_,c_⟩
    have cb:=((Chg.refl [b] ux).drew).trans c_
    replace FR:=hideIt (FR.out.next cb h_)
    replace LD:=hideIt (LD.out.chg cb NQ.out ZM.out)
    have gg:Chg [b,gi] u7 u8:=gg.trans (cb.mono (by simp))
    replace BN:=hideIt (BN.out.chg cb NBN.out)
    have mc:=m_b (by omega)
    obtain ⟨m,rfl⟩:∃m:Nat,m_=(m:Int):=⟨m_.toNat,by omega⟩
    have m3:m<3:=by omega
    have m3i:(m:Int)<3:=by omega
    clear h_ c_ cb m_a m_b mc
    (try go_wp2_with fail)
    refine hK.out _ _ ?_ (fun hh2=>?_)
    ·(try dsimp only);refine HK.out _ ?_;(repeat with_reducible (first|exact gg|exact Chg.refl _ _|refine Chg.drew ?_|refine Chg.alloc ?_ _|refine Chg.setCell ?_ (by simp) _))
    clear hK K hh1
    try simp only [Act.put,List.setIfInBounds_toArray,List.set_cons_zero,List.set_cons_succ]
    refine regTk 6 hh2 ?_
    refine regCall 7 (fun K hK=>?_)
    obtain ⟨s,sz,hs⟩:=strs3 BN.out m3 (by decide)
    clear li fi ln fn hne hn1 nz i0 i1 i2 i3 SN1 SN2 QI QN HX
    obtain ⟨g9,c9,h9,k9,x,n0,ev,hx,⟨qi,li,fi⟩,⟨qn,ln,fn⟩,hne,hn1,nz,⟨i0,i1,i2,i3⟩,S1,S2⟩:=LD.out.inst kx
    have ev1:gi=g9:=by injection ev with q1;injection q1 with q1;injection q1
    subst ev1
    clear ev
    have SN1:=hideIt S1
    have SN2:=hideIt S2
    have QI:=hideIt qi
    have QN:=hideIt qn
    have HX:=hideIt hx
    clear S1 S2 qi qn hx
    go_simp
    refine hK.out _ _ ?_ (fun hh3=>?_)
    ·(try dsimp only);refine HK.out _ ?_;(repeat with_reducible (first|exact gg|exact Chg.refl _ _|refine Chg.drew ?_|refine Chg.alloc ?_ _|refine Chg.setCell ?_ (by simp) _))
    clear hK K hh2
    try simp only [Act.put,List.setIfInBounds_toArray,List.set_cons_zero,List.set_cons_succ]
    refine regTk 8 hh3 ?_
    refine regTk 9 hh3 ?_
    refine regCall 10 (fun K hK=>?_)
    go_simp
    (try go_wp2_with fail)
    refine hK.out _ _ ?_ (fun hh4=>?_)
    ·(try dsimp only);refine HK.out _ ?_;(repeat with_reducible (first|exact gg|exact Chg.refl _ _|refine Chg.drew ?_|refine Chg.alloc ?_ _|refine Chg.setCell ?_ (by simp) _))
    clear hK K hh3
    try simp only [Act.put,List.setIfInBounds_toArray,List.set_cons_zero,List.set_cons_succ]
    refine wpAnyH_done (by kernel_rfl) ?_ _
    clear hh4 HK
    go_wp2_with fail
    go_meet
    exact lde (A1:=(some ⟨gi,0,none⟩)) (FR.out.chg ((Chg.refl [gi] _).setCell (by simp) _) (fun q hq=>by
      simp at hq
      subst hq
      have:=QI.out
      have:=Z1.out
      have:=Z3.out
      have:=MID.out
      have:=ZM.out
      have:=Z4.out
      refine ⟨by omega,fun q hq=>?_⟩
      simp only [List.mem_cons,List.not_mem_nil,or_false] at hq
      rcases hq with rfl|rfl|rfl|rfl<;>(dsimp only;omega))) ((SN2.out 0 (.string s) { x with name:=s } (by decide) (fun _=>rfl) rfl sz).weak (by have:=Z1.out;have:=Z3.out;have:=ZM.out;omega) (by rw [CL.out];decide) (by first|omega|(simp;omega)) (by first|omega|(simp;omega)) (by first|omega|(simp;omega)) (fun g hg=>by have:=Z1.out;have:=Z3.out;simp at hg;omega)) (CL.out.symm) (by simp) (by simp) (by simp) (by first|omega|(simp;omega))
   ·go_simp
    refine (l01Next_any (w0:=w0) 3 FR.out.1.drew).mono ?_
    rintro e u8 ⟨m_,rfl,m_a,m_b,h_,c_⟩
    have cb:=((Chg.refl [b] u7).drew).trans c_
    replace FR:=hideIt (FR.out.next cb h_)
    replace LD:=hideIt (LD.out.chg cb NQ.out ZM.out)
    have gg:Chg [b,gi] u7 u8:=cb.mono (by simp)
    have mc:=m_b (by omega)
    obtain ⟨m,rfl⟩:∃m:Nat,m_=(m:Int):=⟨m_.toNat,by omega⟩
    have m3:m<3:=by omega
    have m3i:(m:Int)<3:=by omega
    clear h_ c_ cb m_a m_b mc
    (try go_wp2_with fail)
    refine hK.out _ _ ?_ (fun hh1=>?_)
    ·(try dsimp only);refine HK.out _ ?_;(repeat with_reducible (first|exact gg|exact Chg.refl _ _|refine Chg.drew ?_|refine Chg.alloc ?_ _|refine Chg.setCell ?_ (by simp) _))
    clear hK K hh0
    try simp only [Act.put,List.setIfInBounds_toArray,List.set_cons_zero,List.set_cons_succ]
    refine regCall 3 (fun K hK=>?_)
    go_simp
    have FR_:=FR.out.alloc (.cells #[.string ⟨#[]⟩,.string ⟨#[117,48]⟩,.string ⟨#[57]⟩] 9)
    have LD_:=LD.out.chg ((Chg.refl [b] u8).alloc (.cells #[.string ⟨#[]⟩,.string ⟨#[117,48]⟩,.string ⟨#[57]⟩] 9)) NQ.out ZM.out
    have BN_:=Blk.new u8 9 #[.string ⟨#[]⟩,.string ⟨#[117,48]⟩,.string ⟨#[57]⟩]
    have gg_:Chg [b,gi] u7 (World.alloc u8 (.cells #[.string ⟨#[]⟩,.string ⟨#[117,48]⟩,.string ⟨#[57]⟩] 9)):=gg.alloc _
    have nb_:(World.heap u8).size∉[b]:=by have:=FR.out.1.ge.2.2;simp;omega
    generalize World.alloc u8 (.cells #[.string ⟨#[]⟩,.string ⟨#[117,48]⟩,.string ⟨#[57]⟩] 9)=ux at FR_ LD_ BN_ gg_ ⊢
    replace FR:=hideIt FR_
    replace LD:=hideIt LD_
    have gg:=gg_
    have BN:=hideIt BN_
    have NBN:=hideIt nb_
    clear FR_ LD_ BN_ gg_ nb_
    (try go_wp2_with fail)
    refine hK.out _ _ ?_ (fun hh2=>?_)
    ·(try dsimp only);refine HK.out _ ?_;(repeat with_reducible (first|exact gg|exact Chg.refl _ _|refine Chg.drew ?_|refine Chg.alloc ?_ _|refine Chg.setCell ?_ (by simp) _))
    clear hK K hh1
    try simp only [Act.put,List.setIfInBounds_toArray,List.set_cons_zero,List.set_cons_succ]
    refine regTk 6 hh2 ?_
    refine regCall 7 (fun K hK=>?_)
    obtain ⟨s,sz,hs⟩:=strs3 BN.out m3 (by decide)
    clear li fi ln fn hne hn1 nz i0 i1 i2 i3 SN1 SN2 QI QN HX
    obtain ⟨g9,c9,h9,k9,x,n0,ev,hx,⟨qi,li,fi⟩,⟨qn,ln,fn⟩,hne,hn1,nz,⟨i0,i1,i2,i3⟩,S1,S2⟩:=LD.out.inst kx
    have ev1:gi=g9:=by injection ev with q1;injection q1 with q1;injection q1
    subst ev1
    clear ev
    have SN1:=hideIt S1
    have SN2:=hideIt S2
    have QI:=hideIt qi
    have QN:=hideIt qn
    have HX:=hideIt hx
    clear S1 S2 qi qn hx
    go_simp
    refine hK.out _ _ ?_ (fun hh3=>?_)
    ·(try dsimp only);refine HK.out _ ?_;(repeat with_reducible (first|exact gg|exact Chg.refl _ _|refine Chg.drew ?_|refine Chg.alloc ?_ _|refine Chg.setCell ?_ (by simp) _))
    clear hK K hh2
    try simp only [Act.put,List.setIfInBounds_toArray,List.set_cons_zero,List.set_cons_succ]
    refine regTk 8 hh3 ?_
    refine regTk 9 hh3 ?_
    refine regCall 10 (fun K hK=>?_)
    go_simp
    (try go_wp2_with fail)
    refine hK.out _ _ ?_ (fun hh4=>?_)
    ·(try dsimp only);refine HK.out _ ?_;(repeat with_reducible (first|exact gg|exact Chg.refl _ _|refine Chg.drew ?_|refine Chg.alloc ?_ _|refine Chg.setCell ?_ (by simp) _))
    clear hK K hh3
    try simp only [Act.put,List.setIfInBounds_toArray,List.set_cons_zero,List.set_cons_succ]
    refine wpAnyH_done (by kernel_rfl) ?_ _
    clear hh4 HK
    go_wp2_with fail
    go_meet
    exact lde (A1:=(some ⟨gi,0,none⟩)) (FR.out.chg ((Chg.refl [gi] _).setCell (by simp) _) (fun q hq=>by
      simp at hq
      subst hq
      have:=QI.out
      have:=Z1.out
      have:=Z3.out
      have:=MID.out
      have:=ZM.out
      have:=Z4.out
      refine ⟨by omega,fun q hq=>?_⟩
      simp only [List.mem_cons,List.not_mem_nil,or_false] at hq
      rcases hq with rfl|rfl|rfl|rfl<;>(dsimp only;omega))) ((SN2.out 0 (.string s) { x with name:=s } (by decide) (fun _=>rfl) rfl sz).weak (by have:=Z1.out;have:=Z3.out;have:=ZM.out;omega) (by rw [CL.out];decide) (by first|omega|(simp;omega)) (by first|omega|(simp;omega)) (by first|omega|(simp;omega)) (fun g hg=>by have:=Z1.out;have:=Z3.out;simp at hg;omega)) (CL.out.symm) (by simp) (by simp) (by simp) (by first|omega|(simp;omega))
  ·obtain ⟨gn,cn,s0,ev,⟨qn,ln,fn⟩,i0,S1⟩:=LD.out.net0 (by omega)
   have ev1:A2=some ⟨gn,0,none⟩:=by injection ev
   have ev3:n2=cn:=by injection ev
   subst ev1 ev3
   clear ev
   have SN1:=hideIt S1
   have QN:=hideIt qn
   clear S1 qn
   have KD:=hideIt (FR.out.2.2.1 (u4.heap.size,31,#[.slice A1 xs.length n1,.slice (some ⟨gn,0,none⟩) ns.length n2,.slice A3 ps.length n3]) (by simp)).1
   have fD:=KD.out.frozen
   have lD:=KD.out.lt
   have d0:=KD.out.cell 0
   have d1:=KD.out.cell 1
   have d2:=KD.out.cell 2
   simp at d0 d1 d2
   have HK:Hid (∀w',Chg [b,gn] u7 w'→w'.cell? ⟨u4.heap.size,1,none⟩=some (.slice (some ⟨gn,0,none⟩) ns.length n2)):=hideIt (fun w' c=>c.cell d1 (by have:=QN.out;have:=MID.out;have:=hb.out;have:=Z1.out;have:=Z3.out;have:=Z4.out;simp;omega))
   have gg:Chg [b,gn] u7 u7:=Chg.refl _ _
   have hn1i:(0:Int)<(ns.length:Int):=by omega
   have hn1n:0<ns.length:=by omega
   clear KD fD lD d0 d1 d2
   go_upto_region 12 with fail
   refine wp_region_held_drew (S:=(fun w'=>w'.cell? ⟨u4.heap.size,1,none⟩=some (.slice (some ⟨gn,0,none⟩) ns.length n2))) (by kernel_rfl) ?_ (fun hh0=>?_)
   ·(try dsimp only);refine HK.out _ ?_;(repeat with_reducible (first|exact gg|exact Chg.refl _ _|refine Chg.drew ?_|refine Chg.alloc ?_ _|refine Chg.setCell ?_ (by simp) _))
   refine regTk 0 hh0 ?_
   refine regTk 1 hh0 ?_
   refine regTk 3 hh0 ?_
   refine regCall2 2 4 (fun K hK=>?_) (fun K hK=>?_)
   ·go_simp
    have FR_:=FR.out.alloc (.cells #[.string ⟨#[110,97]⟩,.string ⟨#[88]⟩,.string ⟨#[102,105,110,101]⟩] 9)
    have LD_:=LD.out.chg ((Chg.refl [b] u7).alloc (.cells #[.string ⟨#[110,97]⟩,.string ⟨#[88]⟩,.string ⟨#[102,105,110,101]⟩] 9)) NQ.out ZM.out
    have BN_:=Blk.new u7 9 #[.string ⟨#[110,97]⟩,.string ⟨#[88]⟩,.string ⟨#[102,105,110,101]⟩]
    have gg_:Chg [b,gn] u7 (World.alloc u7 (.cells #[.string ⟨#[110,97]⟩,.string ⟨#[88]⟩,.string ⟨#[102,105,110,101]⟩] 9)):=(Chg.refl _ _).alloc _
    have nb_:(World.heap u7).size∉[b]:=by have:=FR.out.1.ge.2.2;simp;omega
    generalize World.alloc u7 (.cells #[.string ⟨#[110,97]⟩,.string ⟨#[88]⟩,.string ⟨#[102,105,110,101]⟩] 9)=ux at FR_ LD_ BN_ gg_ ⊢
    replace FR:=hideIt FR_
    replace LD:=hideIt LD_
    have gg:=gg_
    have BN:=hideIt BN_
    have NBN:=hideIt nb_
    clear FR_ LD_ BN_ gg_ nb_
    (try go_wp2_with fail)
    refine hK.out _ _ ?_ (fun hh1=>?_)
    ·(try dsimp only);refine HK.out _ ?_;(repeat with_reducible (first|exact gg|exact Chg.refl _ _|refine Chg.drew ?_|refine Chg.alloc ?_ _|refine Chg.setCell ?_ (by simp) _))
    clear hK K hh0
    try simp only [Act.put,List.setIfInBounds_toArray,List.set_cons_zero,List.set_cons_succ]
    refine regCall 4 (fun K hK=>?_)
    go_simp
    refine (l01Next_any (w0:=w0) 3 FR.out.1.drew).mono ?_
    rintro e u8 ⟨m_,rfl,m_a,m_b,h_,c_⟩
    have cb:=((Chg.refl [b] ux).drew).trans c_
    replace FR:=hideIt (FR.out.next cb h_)
    replace LD:=hideIt (LD.out.chg cb NQ.out ZM.out)
    have gg:Chg [b,gn] u7 u8:=gg.trans (cb.mono (by simp))
    replace BN:=hideIt (BN.out.chg cb NBN.out)
    have mc:=m_b (by omega)
    obtain ⟨m,rfl⟩:∃m:Nat,m_=(m:Int):=⟨m_.toNat,by omega⟩
    have m3:m<3:=by omega
    have m3i:(m:Int)<3:=by omega
    clear h_ c_ cb m_a m_b mc
    (try go_wp2_with fail)
    refine hK.out _ _ ?_ (fun hh2=>?_)
    ·(try dsimp only);refine HK.out _ ?_;(repeat with_reducible (first|exact gg|exact Chg.refl _ _|refine Chg.drew ?_|refine Chg.alloc ?_ _|refine Chg.setCell ?_ (by simp) _))
    clear hK K hh1
    try simp only [Act.put,List.setIfInBounds_toArray,List.set_cons_zero,List.set_cons_succ]
    refine regTk 5 hh2 ?_
    refine regCall 6 (fun K hK=>?_)
    obtain ⟨s,sz,hs⟩:=strs3 BN.out m3 (by decide)
    clear ln fn i0 SN1 QN
    obtain ⟨g9,c9,s9,ev,⟨qn,ln,fn⟩,i0,S1⟩:=LD.out.net0 (by omega)
    have ev1:gn=g9:=by injection ev with q1;injection q1 with q1;injection q1
    subst ev1
    clear ev
    have SN1:=hideIt S1
    have QN:=hideIt qn
    clear S1 qn
    go_simp
    refine hK.out _ _ ?_ (fun hh3=>?_)
    ·(try dsimp only);refine HK.out _ ?_;(repeat with_reducible (first|exact gg|exact Chg.refl _ _|refine Chg.drew ?_|refine Chg.alloc ?_ _|refine Chg.setCell ?_ (by simp) _))
    clear hK K hh2
    try simp only [Act.put,List.setIfInBounds_toArray,List.set_cons_zero,List.set_cons_succ]
    refine regTk 7 hh3 ?_
    refine regCall 8 (fun K hK=>?_)
    go_simp
    (try go_wp2_with fail)
    refine hK.out _ _ ?_ (fun hh4=>?_)
    ·(try dsimp only);refine HK.out _ ?_;(repeat with_reducible (first|exact gg|exact Chg.refl _ _|refine Chg.drew ?_|refine Chg.alloc ?_ _|refine Chg.setCell ?_ (by simp) _))
    clear hK K hh3
    try simp only [Act.put,List.setIfInBounds_toArray,List.set_cons_zero,List.set_cons_succ]
    refine wpAnyH_done (by kernel_rfl) ?_ _
    clear hh4 HK
    go_wp2_with fail
    go_meet
    exact lde (A1:=A1) (FR.out.chg ((Chg.refl [gn] _).setCell (by simp) _) (fun q hq=>by
      simp at hq
      subst hq
      have:=QN.out
      have:=Z1.out
      have:=Z3.out
      have:=MID.out
      have:=ZM.out
      have:=Z4.out
      refine ⟨by omega,fun q hq=>?_⟩
      simp only [List.mem_cons,List.not_mem_nil,or_false] at hq
      rcases hq with rfl|rfl|rfl|rfl<;>(dsimp only;omega))) ((SN1.out s sz).weak (by have:=Z1.out;have:=Z3.out;have:=ZM.out;omega) (by rw [CL.out];decide) (by first|omega|(simp;omega)) (by first|omega|(simp;omega)) (by first|omega|(simp;omega)) (fun g hg=>by have:=Z1.out;have:=Z3.out;simp at hg;omega)) (CL.out.symm) (by simp) (by simp) (by simp) (by first|omega|(simp;omega))
   ·go_simp
    refine (l01Next_any (w0:=w0) 3 FR.out.1.drew).mono ?_
    rintro e u8 ⟨m_,rfl,m_a,m_b,h_,c_⟩
    have cb:=((Chg.refl [b] u7).drew).trans c_
    replace FR:=hideIt (FR.out.next cb h_)
    replace LD:=hideIt (LD.out.chg cb NQ.out ZM.out)
    have gg:Chg [b,gn] u7 u8:=cb.mono (by simp)
    have mc:=m_b (by omega)
    obtain ⟨m,rfl⟩:∃m:Nat,m_=(m:Int):=⟨m_.toNat,by omega⟩
    have m3:m<3:=by omega
    have m3i:(m:Int)<3:=by omega
    clear h_ c_ cb m_a m_b mc
    (try go_wp2_with fail)
    refine hK.out _ _ ?_ (fun hh1=>?_)
    ·(try dsimp only);refine HK.out _ ?_;(repeat with_reducible (first|exact gg|exact Chg.refl _ _|refine Chg.drew ?_|refine Chg.alloc ?_ _|refine Chg.setCell ?_ (by simp) _))
    clear hK K hh0
    try simp only [Act.put,List.setIfInBounds_toArray,List.set_cons_zero,List.set_cons_succ]
    refine regCall 2 (fun K hK=>?_)
    go_simp
    have FR_:=FR.out.alloc (.cells #[.string ⟨#[110,97]⟩,.string ⟨#[88]⟩,.string ⟨#[102,105,110,101]⟩] 9)
    have LD_:=LD.out.chg ((Chg.refl [b] u8).alloc (.cells #[.string ⟨#[110,97]⟩,.string ⟨#[88]⟩,.string ⟨#[102,105,110,101]⟩] 9)) NQ.out ZM.out
    have BN_:=Blk.new u8 9 #[.string ⟨#[110,97]⟩,.string ⟨#[88]⟩,.string ⟨#[102,105,110,101]⟩]
    have gg_:Chg [b,gn] u7 (World.alloc u8 (.cells #[.string ⟨#[110,97]⟩,.string ⟨#[88]⟩,.string ⟨#[102,105,110,101]⟩] 9)):=gg.alloc _
    have nb_:(World.heap u8).size∉[b]:=by have:=FR.out.1.ge.2.2;simp;omega
    generalize World.alloc u8 (.cells #[.string ⟨#[110,97]⟩,.string ⟨#[88]⟩,.string ⟨#[102,105,110,101]⟩] 9)=ux at FR_ LD_ BN_ gg_ ⊢
    replace FR:=hideIt FR_
    replace LD:=hideIt LD_
    have gg:=gg_
    have BN:=hideIt BN_
    have NBN:=hideIt nb_
    clear FR_ LD_ BN_ gg_ nb_
    (try go_wp2_with fail)
    refine hK.out _ _ ?_ (fun hh2=>?_)
    ·(try dsimp only);refine HK.out _ ?_;(repeat with_reducible (first|exact gg|exact Chg.refl _ _|refine Chg.drew ?_|refine Chg.alloc ?_ _|refine Chg.setCell ?_ (by simp) _))
    clear hK K hh1
    try simp only [Act.put,List.setIfInBounds_toArray,List.set_cons_zero,List.set_cons_succ]
    refine regTk 5 hh2 ?_
    refine regCall 6 (fun K hK=>?_)
    obtain ⟨s,sz,hs⟩:=strs3 BN.out m3 (by decide)
    clear ln fn i0 SN1 QN
    obtain ⟨g9,c9,s9,ev,⟨qn,ln,fn⟩,i0,S1⟩:=LD.out.net0 (by omega)
    have ev1:gn=g9:=by injection ev with q1;injection q1 with q1;injection q1
    subst ev1
    clear ev
    have SN1:=hideIt S1
    have QN:=hideIt qn
    clear S1 qn
    go_simp
    refine hK.out _ _ ?_ (fun hh3=>?_)
    ·(try dsimp only);refine HK.out _ ?_;(repeat with_reducible (first|exact gg|exact Chg.refl _ _|refine Chg.drew ?_|refine Chg.alloc ?_ _|refine Chg.setCell ?_ (by simp) _))
    clear hK K hh2
    try simp only [Act.put,List.setIfInBounds_toArray,List.set_cons_zero,List.set_cons_succ]
    refine regTk 7 hh3 ?_
    refine regCall 8 (fun K hK=>?_)
    go_simp
    (try go_wp2_with fail)
    refine hK.out _ _ ?_ (fun hh4=>?_)
    ·(try dsimp only);refine HK.out _ ?_;(repeat with_reducible (first|exact gg|exact Chg.refl _ _|refine Chg.drew ?_|refine Chg.alloc ?_ _|refine Chg.setCell ?_ (by simp) _))
    clear hK K hh3
    try simp only [Act.put,List.setIfInBounds_toArray,List.set_cons_zero,List.set_cons_succ]
    refine wpAnyH_done (by kernel_rfl) ?_ _
    clear hh4 HK
    go_wp2_with fail
    go_meet
    exact lde (A1:=A1) (FR.out.chg ((Chg.refl [gn] _).setCell (by simp) _) (fun q hq=>by
      simp at hq
      subst hq
      have:=QN.out
      have:=Z1.out
      have:=Z3.out
      have:=MID.out
      have:=ZM.out
      have:=Z4.out
      refine ⟨by omega,fun q hq=>?_⟩
      simp only [List.mem_cons,List.not_mem_nil,or_false] at hq
      rcases hq with rfl|rfl|rfl|rfl<;>(dsimp only;omega))) ((SN1.out s sz).weak (by have:=Z1.out;have:=Z3.out;have:=ZM.out;omega) (by rw [CL.out];decide) (by first|omega|(simp;omega)) (by first|omega|(simp;omega)) (by first|omega|(simp;omega)) (fun g hg=>by have:=Z1.out;have:=Z3.out;simp at hg;omega)) (CL.out.symm) (by simp) (by simp) (by simp) (by first|omega|(simp;omega))
  ·obtain ⟨iS,hiS,hzS,hsS,hbS⟩:=info_two info_strB bytes_strB
   obtain ⟨nrow,nlt,napp⟩:=LD.out.netApp (ex:=[u1.heap.size,u4.heap.size]) (by have:=Z1.out;have:=Z3.out;have:=ZM.out;omega) (by rw [CL.out];decide) (by omega) (by omega) (by omega) (fun g hg=>by
    have h1:=Z1.out
    have h3:=Z3.out
    have h4:=(FR.out.2.2.1 (u4.heap.size,31,#[.slice A1 xs.length n1,.slice A2 ns.length n2,.slice A3 ps.length n3]) (by simp)).1.lt
    simp at hg
    rcases hg with rfl|rfl
    ·exact .inr (.inl ⟨by omega,by omega⟩)
    ·exact .inr (.inr ⟨by omega,h4⟩))
   have NROW:=hideIt (nrow.alloc (.cells #[.string ⟨#[109,111,114,101]⟩] 9))
   have NLT:=hideIt nlt
   have NAPP:=hideIt napp
   clear nrow nlt napp
   have KD:=hideIt (FR.out.2.2.1 (u4.heap.size,31,#[.slice A1 xs.length n1,.slice A2 ns.length n2,.slice A3 ps.length n3]) (by simp)).1
   have fD:=KD.out.frozen
   have lD:=KD.out.lt
   have d0:=KD.out.cell 0
   have d1:=KD.out.cell 1
   have d2:=KD.out.cell 2
   simp at d0 d1 d2
   go_wp2_with (at_builtin;go_loud (refine wpList_append_own_at _ rfl _ _ 28 rfl 0 9 iS (.string .empty) 1 iS.bytes Tryz.underlying28 hiS hzS hsS rfl rfl (by decide) (.slice A2 ns.length n2) ns.length (ns.map Value.string) rfl NROW.out ⟨u7.heap.size,0,none⟩ 1 1 [.string ⟨#[109,111,114,101]⟩] rfl rfl (cells_new _ _ _) (by intro u hu;simp at hu;subst hu;rfl) (by unfold maxLen;omega) (by have:(ns.length+1) * iS.bytes≤11 * 256:=Nat.mul_le_mul (by omega) hbS;omega) (Nat.zero_le _) ?_))
   intro vn9 wn hrow hgrow hnil hat
   obtain ⟨A5,c5,ev⟩:=own_slice hrow
   have ev2:vn9=.slice A5 (ns.length+1) c5:=ev
   clear ev
   subst ev2
   have LZ8:=hideIt (NAPP.out _ wn _ ⟨#[109,111,114,101]⟩ ((Chg.refl [] u7).alloc (.cells #[.string ⟨#[109,111,114,101]⟩] 9)) (by decide) hgrow (by simpa using hat) hrow)
   have FR8:=hideIt ((FR.out.alloc (.cells #[.string ⟨#[109,111,114,101]⟩] 9)).grown hgrow (fun k e=>by
    have h9:=NLT.out k e
    have:=Z1.out
    have:=Z3.out
    have:=ZM.out
    have:=MID.out
    refine ⟨by omega,fun q hq=>?_⟩
    simp only [List.mem_cons,List.not_mem_nil,or_false] at hq
    rcases hq with rfl|rfl|rfl|rfl<;>(dsimp only;omega)))
   clear hrow hgrow hnil hat NROW NLT NAPP
   clear KD fD lD d0 d1 d2
   have KD8:=hideIt (FR8.out.2.2.1 (u4.heap.size,31,#[.slice A1 xs.length n1,.slice A2 ns.length n2,.slice A3 ps.length n3]) (by simp)).1
   have fD:=KD8.out.frozen
   have lD:=KD8.out.lt
   have d0:=KD8.out.cell 0
   have d1:=KD8.out.cell 1
   have d2:=KD8.out.cell 2
   simp at d0 d1 d2
   have FRX:Hid (Fr [(w.heap.size,26,#[.slice none 0 0]),(w.heap.size+1,31,#[.slice none 0 0,.slice none 0 0,.slice none 0 0]),(u1.heap.size,26,#[.slice (some ⟨g,0,none⟩) 8 n]),(u4.heap.size,31,#[.slice A1 xs.length n1,.slice A5 (ns.length+1) c5,.slice A3 ps.length n3])] w0 w b (wn.setCell ⟨u4.heap.size,1,none⟩ (.slice A5 (ns.length+1) c5))):=hideIt (by
    have hs:=FR8.out
    have q1:=Z1.out
    have q3:=Z3.out
    have q4:=Z4.out
    have c:Chg [u4.heap.size] wn (wn.setCell ⟨u4.heap.size,1,none⟩ (.slice A5 (ns.length+1) c5)):=(Chg.refl _ _).setCell (by simp) _
    refine ⟨hs.1.chg c (by have:=hb.out;simp;omega) (fun g hg=>by have:=HG.out;simp at hg;omega),hs.2.1.setNew (by dsimp only;omega) _,fun q hq=>?_,hb.out,HG.out⟩
    simp only [List.mem_cons,List.not_mem_nil,or_false] at hq
    rcases hq with rfl|rfl|rfl|rfl
    ·exact ⟨(hs.2.2.1 (w.heap.size,_,_) (by simp)).1.chg c (by simp;omega),by dsimp only;omega⟩
    ·exact ⟨(hs.2.2.1 (w.heap.size+1,_,_) (by simp)).1.chg c (by simp;omega),by dsimp only;omega⟩
    ·exact ⟨(hs.2.2.1 (u1.heap.size,_,_) (by simp)).1.chg c (by simp;omega),by dsimp only;omega⟩
    ·exact ⟨KD8.out.setE (i:=1) rfl,by dsimp only;omega⟩)
   go_wp2_with fail
   go_meet
   exact lde (A1:=A1) FRX.out (LZ8.out.next ((Chg.refl [u4.heap.size] _).setCell (by simp) _) (by simp)) (CL.out.symm) (by simp) (by simp) (by simp) (by first|omega|(simp;omega))
  ·obtain ⟨gp,cp,p,ev,hp,⟨qp,lp,fp⟩,⟨p0,p1,p2⟩,S3⟩:=LD.out.port (i:=1) (by omega) ZM.out
   have ev1:A3=some ⟨gp,0,none⟩:=by injection ev
   have ev3:n3=cp:=by injection ev
   subst ev1 ev3
   clear ev
   have SN3:=hideIt S3
   have QP:=hideIt qp
   clear S3 qp hp
   have KD:=hideIt (FR.out.2.2.1 (u4.heap.size,31,#[.slice A1 xs.length n1,.slice A2 ns.length n2,.slice (some ⟨gp,0,none⟩) ps.length n3]) (by simp)).1
   have fD:=KD.out.frozen
   have lD:=KD.out.lt
   have d0:=KD.out.cell 0
   have d1:=KD.out.cell 1
   have d2:=KD.out.cell 2
   simp at d0 d1 d2
   have HK:Hid (∀w',Chg [b,gp] u7 w'→w'.cell? ⟨u4.heap.size,2,none⟩=some (.slice (some ⟨gp,0,none⟩) ps.length n3)):=hideIt (fun w' c=>c.cell d2 (by have:=QP.out;have:=hb.out;have:=Z1.out;have:=Z3.out;have:=Z4.out;simp;omega))
   clear KD fD lD d0 d1 d2
   go_upto_region 16 with fail
   refine wp_region_held_drew (S:=(fun w'=>w'.cell? ⟨u4.heap.size,2,none⟩=some (.slice (some ⟨gp,0,none⟩) ps.length n3))) (by kernel_rfl) ?_ (fun hh0=>?_)
   ·(try dsimp only);refine HK.out _ ?_;(repeat with_reducible (first|exact gg|exact Chg.refl _ _|refine Chg.drew ?_|refine Chg.alloc ?_ _|refine Chg.setCell ?_ (by simp) _))
   refine regTk 0 hh0 ?_
   refine regTk 1 hh0 ?_
   refine regTk 2 hh0 ?_
   refine regTk 4 hh0 ?_
   refine regCall 3 (fun K hK=>?_)
   go_simp
   refine (l01Next_any (w0:=w0) 3 FR.out.1.drew).mono ?_
   rintro e u8 ⟨i_,rfl,i_a,i_b,h_,c_⟩
   have cb:=((Chg.refl [b] u7).drew).trans c_
   replace FR:=hideIt (FR.out.next cb h_)
   replace LD:=hideIt (LD.out.chg cb NQ.out ZM.out)
   have gg:Chg [b,gp] u7 u8:=cb.mono (by simp)
   clear h_ c_ cb
   have ic:=i_b (by omega)
   obtain ⟨i,rfl⟩:∃i:Nat,i_=(i:Int):=⟨i_.toNat,by omega⟩
   have i3:i<3:=by omega
   have ipi:(i:Int)<(ps.length:Int):=by omega
   have ipn:i<ps.length:=by omega
   clear lp fp p0 p1 p2 SN3 QP i_a i_b ic
   (try go_wp2_with fail)
   refine hK.out _ _ ?_ (fun hh1=>?_)
   ·(try dsimp only);refine HK.out _ ?_;(repeat with_reducible (first|exact gg|exact Chg.refl _ _|refine Chg.drew ?_|refine Chg.alloc ?_ _|refine Chg.setCell ?_ (by simp) _))
   clear hK K hh0
   try simp only [Act.put,List.setIfInBounds_toArray,List.set_cons_zero,List.set_cons_succ]
   refine regCall 5 (fun K hK=>?_)
   go_simp
   refine (l01Next_any (w0:=w0) 4 FR.out.1).mono ?_
   rintro e u9 ⟨m,rfl,ma,mb,h_,c_⟩
   have gg:Chg [b,gp] u7 u9:=gg.trans (c_.mono (by simp))
   replace FR:=hideIt (FR.out.next c_ h_)
   replace LD:=hideIt (LD.out.chg c_ NQ.out ZM.out)
   clear h_ c_ mb
   obtain ⟨g9,c9,p,ev,hp,⟨qp,lp,fp⟩,⟨p0,p1,p2⟩,S3⟩:=LD.out.port (i:=i) (by omega) ZM.out
   have ev1:gp=g9:=by injection ev with q1;injection q1 with q1;injection q1
   subst ev1
   clear ev
   have SN3:=hideIt S3
   have QP:=hideIt qp
   clear S3 qp hp
   (try go_wp2_with fail)
   refine hK.out _ _ ?_ (fun hh2=>?_)
   ·(try dsimp only);refine HK.out _ ?_;(repeat with_reducible (first|exact gg|exact Chg.refl _ _|refine Chg.drew ?_|refine Chg.alloc ?_ _|refine Chg.setCell ?_ (by simp) _))
   clear hK K hh1
   try simp only [Act.put,List.setIfInBounds_toArray,List.set_cons_zero,List.set_cons_succ]
   refine regTk 6 hh2 ?_
   refine regTk 7 hh2 ?_
   refine regCall 8 (fun K hK=>?_)
   go_simp
   (try go_wp2_with fail)
   refine hK.out _ _ ?_ (fun hh3=>?_)
   ·(try dsimp only);refine HK.out _ ?_;(repeat with_reducible (first|exact gg|exact Chg.refl _ _|refine Chg.drew ?_|refine Chg.alloc ?_ _|refine Chg.setCell ?_ (by simp) _))
   clear hK K hh2
   try simp only [Act.put,List.setIfInBounds_toArray,List.set_cons_zero,List.set_cons_succ]
   refine wpAnyH_done (by kernel_rfl) ?_ _
   clear hh3 HK
   go_wp2_with fail
   go_meet
   exact lde (A1:=A1) (FR.out.chg ((Chg.refl [gp] _).setCell (by simp) _) (fun q hq=>by
     simp at hq
     subst hq
     have:=QP.out
     have:=Z1.out
     have:=Z3.out
     have:=MID.out
     have:=ZM.out
     have:=Z4.out
     refine ⟨by omega,fun q hq=>?_⟩
     simp only [List.mem_cons,List.not_mem_nil,or_false] at hq
     rcases hq with rfl|rfl|rfl|rfl<;>(dsimp only;omega))) ((SN3.out 1 (.int .i64 m) { p with dir:=m } (by decide) rfl rfl).weak (by have:=Z1.out;have:=Z3.out;have:=ZM.out;omega) (by rw [CL.out];decide) (by first|omega|(simp;omega)) (by first|omega|(simp;omega)) (by first|omega|(simp;omega)) (fun g hg=>by have:=Z1.out;have:=Z3.out;simp at hg;omega)) (CL.out.symm) (by simp) (by simp) (by simp) (by first|omega|(simp;omega))
  ·obtain ⟨gp,cp,p,ev,hp,⟨qp,lp,fp⟩,⟨p0,p1,p2⟩,S3⟩:=LD.out.port (i:=1) (by omega) ZM.out
   have ev1:A3=some ⟨gp,0,none⟩:=by injection ev
   have ev3:n3=cp:=by injection ev
   subst ev1 ev3
   clear ev
   have SN3:=hideIt S3
   have QP:=hideIt qp
   clear S3 qp hp
   have KD:=hideIt (FR.out.2.2.1 (u4.heap.size,31,#[.slice A1 xs.length n1,.slice A2 ns.length n2,.slice (some ⟨gp,0,none⟩) ps.length n3]) (by simp)).1
   have fD:=KD.out.frozen
   have lD:=KD.out.lt
   have d0:=KD.out.cell 0
   have d1:=KD.out.cell 1
   have d2:=KD.out.cell 2
   simp at d0 d1 d2
   have pli:(1:Int)<(ps.length:Int):=by omega
   have pln:1<ps.length:=by omega
   have HK:Hid (∀w',Chg [b,gp] u7 w'→w'.cell? ⟨u4.heap.size,2,none⟩=some (.slice (some ⟨gp,0,none⟩) ps.length n3)):=hideIt (fun w' c=>c.cell d2 (by have:=QP.out;have:=hb.out;have:=Z1.out;have:=Z3.out;have:=Z4.out;simp;omega))
   clear KD fD lD d0 d1 d2
   go_upto_region 18 with fail
   refine wp_region_held_drew (S:=(fun w'=>w'.cell? ⟨u4.heap.size,2,none⟩=some (.slice (some ⟨gp,0,none⟩) ps.length n3))) (by kernel_rfl) ?_ (fun hh0=>?_)
   ·(try dsimp only);refine HK.out _ ?_;(repeat with_reducible (first|exact gg|exact Chg.refl _ _|refine Chg.drew ?_|refine Chg.alloc ?_ _|refine Chg.setCell ?_ (by simp) _))
   refine regTk 0 hh0 ?_
   refine regTk 1 hh0 ?_
   refine regTk 2 hh0 ?_
   refine regCall 3 (fun K hK=>?_)
   go_simp
   refine (l01Next_any (w0:=w0) 4 FR.out.1.drew).mono ?_
   rintro e u8 ⟨m,rfl,ma,mb,h_,c_⟩
   have cb:=((Chg.refl [b] u7).drew).trans c_
   replace FR:=hideIt (FR.out.next cb h_)
   replace LD:=hideIt (LD.out.chg cb NQ.out ZM.out)
   have gg:Chg [b,gp] u7 u8:=cb.mono (by simp)
   clear h_ c_ cb
   clear lp fp p0 p1 p2 SN3 QP mb
   obtain ⟨g9,c9,p,ev,hp,⟨qp,lp,fp⟩,⟨p0,p1,p2⟩,S3⟩:=LD.out.port (i:=1) (by omega) ZM.out
   have ev1:gp=g9:=by injection ev with q1;injection q1 with q1;injection q1
   subst ev1
   clear ev
   have SN3:=hideIt S3
   have QP:=hideIt qp
   clear S3 qp hp
   simp only [Nat.one_mul] at p0 p1 p2
   (try go_wp2_with fail)
   refine hK.out _ _ ?_ (fun hh1=>?_)
   ·(try dsimp only);refine HK.out _ ?_;(repeat with_reducible (first|exact gg|exact Chg.refl _ _|refine Chg.drew ?_|refine Chg.alloc ?_ _|refine Chg.setCell ?_ (by simp) _))
   clear hK K hh0
   try simp only [Act.put,List.setIfInBounds_toArray,List.set_cons_zero,List.set_cons_succ]
   refine regTk 4 hh1 ?_
   refine regTk 5 hh1 ?_
   refine regCall 6 (fun K hK=>?_)
   go_simp
   (try go_wp2_with fail)
   refine hK.out _ _ ?_ (fun hh2=>?_)
   ·(try dsimp only);refine HK.out _ ?_;(repeat with_reducible (first|exact gg|exact Chg.refl _ _|refine Chg.drew ?_|refine Chg.alloc ?_ _|refine Chg.setCell ?_ (by simp) _))
   clear hK K hh1
   try simp only [Act.put,List.setIfInBounds_toArray,List.set_cons_zero,List.set_cons_succ]
   refine wpAnyH_done (by kernel_rfl) ?_ _
   clear hh2 HK
   go_wp2_with fail
   go_meet
   exact lde (A1:=A1) (FR.out.chg ((Chg.refl [gp] _).setCell (by simp) _) (fun q hq=>by
     simp at hq
     subst hq
     have:=QP.out
     have:=Z1.out
     have:=Z3.out
     have:=MID.out
     have:=ZM.out
     have:=Z4.out
     refine ⟨by omega,fun q hq=>?_⟩
     simp only [List.mem_cons,List.not_mem_nil,or_false] at hq
     rcases hq with rfl|rfl|rfl|rfl<;>(dsimp only;omega))) ((SN3.out 2 (.int .i64 m) { p with net:=m } (by decide) rfl rfl).weak (by have:=Z1.out;have:=Z3.out;have:=ZM.out;omega) (by rw [CL.out];decide) (by first|omega|(simp;omega)) (by first|omega|(simp;omega)) (by first|omega|(simp;omega)) (fun g hg=>by have:=Z1.out;have:=Z3.out;simp at hg;omega)) (CL.out.symm) (by simp) (by simp) (by simp) (by first|omega|(simp;omega))
  ·have KL:=hideIt (FR.out.2.2.1 (u1.heap.size,26,#[.slice (some ⟨g,0,none⟩) 8 n]) (by simp)).1
   have fL:=KL.out.frozen
   have lL:=KL.out.lt
   have l0:=KL.out.cell 0
   simp at l0
   have cap8:8≤n:=by have:=LD.out.cap;have:=CL.out;omega
   go_upto_region 20 with fail
   refine wp_region_held_drew (S:=(fun _=>True)) (by kernel_rfl) ?_ (fun hh0=>?_)
   ·(try dsimp only);try trivial
   refine regTk 0 hh0 ?_
   refine regTk 2 hh0 ?_
   refine regCall2 1 3 (fun K hK=>?_) (fun K hK=>?_)
   ·go_simp
    (try go_wp2_with fail)
    refine hK.out _ _ ?_ (fun hh1=>?_)
    ·(try dsimp only);try trivial
    clear hK K hh0
    try simp only [Act.put,List.setIfInBounds_toArray,List.set_cons_zero,List.set_cons_succ]
    refine regCall 3 (fun K hK=>?_)
    go_simp
    refine (l01Next_any (w0:=w0) 8 FR.out.1.drew).mono ?_
    rintro e u8 ⟨m_,rfl,m_a,m_b,h_,c_⟩
    have cb:=((Chg.refl [b] u7).drew).trans c_
    replace FR:=hideIt (FR.out.next cb h_)
    replace LD:=hideIt (LD.out.chg cb NQ.out ZM.out)
    clear h_ c_ cb
    have mc:=m_b (by omega)
    obtain ⟨m,rfl⟩:∃m:Nat,m_=(m:Int):=⟨m_.toNat,by omega⟩
    have m8:m<8:=by omega
    have mn:m≤n:=by omega
    have mni:(m:Int)≤(n:Int):=by omega
    clear m_a m_b mc KL fL lL l0
    have KL:=hideIt (FR.out.2.2.1 (u1.heap.size,26,#[.slice (some ⟨g,0,none⟩) 8 n]) (by simp)).1
    have fL:=KL.out.frozen
    have lL:=KL.out.lt
    have l0:=KL.out.cell 0
    simp at l0
    (try go_wp2_with fail)
    refine hK.out _ _ ?_ (fun hh2=>?_)
    ·(try dsimp only);try trivial
    clear hK K hh1
    try simp only [Act.put,List.setIfInBounds_toArray,List.set_cons_zero,List.set_cons_succ]
    refine regTk 4 hh2 ?_
    refine regTk 5 hh2 ?_
    refine regCall 6 (fun K hK=>?_)
    go_simp
    (try go_wp2_with fail)
    refine hK.out _ _ ?_ (fun hh3=>?_)
    ·(try dsimp only);try trivial
    clear hK K hh2
    try simp only [Act.put,List.setIfInBounds_toArray,List.set_cons_zero,List.set_cons_succ]
    refine wpAnyH_done (by kernel_rfl) ?_ _
    clear hh3
    have FRX:Hid (Fr [(w.heap.size,26,#[.slice none 0 0]),(w.heap.size+1,31,#[.slice none 0 0,.slice none 0 0,.slice none 0 0]),(u1.heap.size,26,#[.slice (some ⟨g,0,none⟩) m n]),(u4.heap.size,31,#[.slice A1 xs.length n1,.slice A2 ns.length n2,.slice A3 ps.length n3])] w0 w b (u8.setCell ⟨u1.heap.size,0,none⟩ (.slice (some ⟨g,0,none⟩) m n))):=hideIt (by
     have hs:=FR.out
     have q1:=Z1.out
     have q3:=Z3.out
     have q4:=Z4.out
     have c:Chg [u1.heap.size] u8 (u8.setCell ⟨u1.heap.size,0,none⟩ (.slice (some ⟨g,0,none⟩) m n)):=(Chg.refl _ _).setCell (by simp) _
     refine ⟨hs.1.chg c (by have:=hb.out;simp;omega) (fun g hg=>by have:=HG.out;simp at hg;omega),hs.2.1.setNew (by dsimp only;omega) _,fun q hq=>?_,hb.out,HG.out⟩
     simp only [List.mem_cons,List.not_mem_nil,or_false] at hq
     rcases hq with rfl|rfl|rfl|rfl
     ·exact ⟨(hs.2.2.1 (w.heap.size,_,_) (by simp)).1.chg c (by simp;omega),by dsimp only;omega⟩
     ·exact ⟨(hs.2.2.1 (w.heap.size+1,_,_) (by simp)).1.chg c (by simp;omega),by dsimp only;omega⟩
     ·exact ⟨KL.out.setE (i:=0) rfl,by dsimp only;omega⟩
     ·exact ⟨(hs.2.2.1 (u4.heap.size,_,_) (by simp)).1.chg c (by simp;omega),by dsimp only;omega⟩)
    go_wp2_with fail
    go_meet
    exact lde (A1:=A1) FRX.out ((LDW.take (LD.out.weak (by have:=Z1.out;have:=Z3.out;have:=ZM.out;omega) (by rw [CL.out];decide) (by omega) (by omega) (by omega) (fun g hg=>by have:=Z1.out;have:=Z3.out;simp at hg;omega)) (by rw [CL.out];omega)).next ((Chg.refl [u1.heap.size] _).setCell (by simp) _) (by simp)) (by rw [List.length_take,CL.out];omega) (by simp) (by simp) (by simp) (by first|omega|(simp;omega))
   ·go_simp
    refine (l01Next_any (w0:=w0) 8 FR.out.1.drew).mono ?_
    rintro e u8 ⟨m_,rfl,m_a,m_b,h_,c_⟩
    have cb:=((Chg.refl [b] u7).drew).trans c_
    replace FR:=hideIt (FR.out.next cb h_)
    replace LD:=hideIt (LD.out.chg cb NQ.out ZM.out)
    clear h_ c_ cb
    have mc:=m_b (by omega)
    obtain ⟨m,rfl⟩:∃m:Nat,m_=(m:Int):=⟨m_.toNat,by omega⟩
    have m8:m<8:=by omega
    have mn:m≤n:=by omega
    have mni:(m:Int)≤(n:Int):=by omega
    clear m_a m_b mc KL fL lL l0
    have KL:=hideIt (FR.out.2.2.1 (u1.heap.size,26,#[.slice (some ⟨g,0,none⟩) 8 n]) (by simp)).1
    have fL:=KL.out.frozen
    have lL:=KL.out.lt
    have l0:=KL.out.cell 0
    simp at l0
    (try go_wp2_with fail)
    refine hK.out _ _ ?_ (fun hh1=>?_)
    ·(try dsimp only);try trivial
    clear hK K hh0
    try simp only [Act.put,List.setIfInBounds_toArray,List.set_cons_zero,List.set_cons_succ]
    refine regCall 1 (fun K hK=>?_)
    go_simp
    (try go_wp2_with fail)
    refine hK.out _ _ ?_ (fun hh2=>?_)
    ·(try dsimp only);try trivial
    clear hK K hh1
    try simp only [Act.put,List.setIfInBounds_toArray,List.set_cons_zero,List.set_cons_succ]
    refine regTk 4 hh2 ?_
    refine regTk 5 hh2 ?_
    refine regCall 6 (fun K hK=>?_)
    go_simp
    (try go_wp2_with fail)
    refine hK.out _ _ ?_ (fun hh3=>?_)
    ·(try dsimp only);try trivial
    clear hK K hh2
    try simp only [Act.put,List.setIfInBounds_toArray,List.set_cons_zero,List.set_cons_succ]
    refine wpAnyH_done (by kernel_rfl) ?_ _
    clear hh3
    have FRX:Hid (Fr [(w.heap.size,26,#[.slice none 0 0]),(w.heap.size+1,31,#[.slice none 0 0,.slice none 0 0,.slice none 0 0]),(u1.heap.size,26,#[.slice (some ⟨g,0,none⟩) m n]),(u4.heap.size,31,#[.slice A1 xs.length n1,.slice A2 ns.length n2,.slice A3 ps.length n3])] w0 w b (u8.setCell ⟨u1.heap.size,0,none⟩ (.slice (some ⟨g,0,none⟩) m n))):=hideIt (by
     have hs:=FR.out
     have q1:=Z1.out
     have q3:=Z3.out
     have q4:=Z4.out
     have c:Chg [u1.heap.size] u8 (u8.setCell ⟨u1.heap.size,0,none⟩ (.slice (some ⟨g,0,none⟩) m n)):=(Chg.refl _ _).setCell (by simp) _
     refine ⟨hs.1.chg c (by have:=hb.out;simp;omega) (fun g hg=>by have:=HG.out;simp at hg;omega),hs.2.1.setNew (by dsimp only;omega) _,fun q hq=>?_,hb.out,HG.out⟩
     simp only [List.mem_cons,List.not_mem_nil,or_false] at hq
     rcases hq with rfl|rfl|rfl|rfl
     ·exact ⟨(hs.2.2.1 (w.heap.size,_,_) (by simp)).1.chg c (by simp;omega),by dsimp only;omega⟩
     ·exact ⟨(hs.2.2.1 (w.heap.size+1,_,_) (by simp)).1.chg c (by simp;omega),by dsimp only;omega⟩
     ·exact ⟨KL.out.setE (i:=0) rfl,by dsimp only;omega⟩
     ·exact ⟨(hs.2.2.1 (u4.heap.size,_,_) (by simp)).1.chg c (by simp;omega),by dsimp only;omega⟩)
    go_wp2_with fail
    go_meet
    exact lde (A1:=A1) FRX.out ((LDW.take (LD.out.weak (by have:=Z1.out;have:=Z3.out;have:=ZM.out;omega) (by rw [CL.out];decide) (by omega) (by omega) (by omega) (fun g hg=>by have:=Z1.out;have:=Z3.out;simp at hg;omega)) (by rw [CL.out];omega)).next ((Chg.refl [u1.heap.size] _).setCell (by simp) _) (by simp)) (by rw [List.length_take,CL.out];omega) (by simp) (by simp) (by simp) (by first|omega|(simp;omega))
  ·obtain ⟨ql,lg,fg,cc⟩:=LD.out.lib8 (by rw [CL.out];decide)
   have QL:=hideIt ql
   clear ql lg fg cc
   have KL:=hideIt (FR.out.2.2.1 (u1.heap.size,26,#[.slice (some ⟨g,0,none⟩) 8 n]) (by simp)).1
   have fL:=KL.out.frozen
   have lL:=KL.out.lt
   have l0:=KL.out.cell 0
   simp at l0
   have HK:Hid (∀w',Chg [b,g] u7 w'→w'.cell? ⟨u1.heap.size,0,none⟩=some (.slice (some ⟨g,0,none⟩) 8 n)):=hideIt (fun w' c=>c.cell l0 (by have:=QL.out;have:=hb.out;have:=Z1.out;simp;omega))
   clear KL fL lL l0
   go_upto_region 22 with fail
   refine wp_region_held_drew (S:=(fun w'=>w'.cell? ⟨u1.heap.size,0,none⟩=some (.slice (some ⟨g,0,none⟩) 8 n))) (by kernel_rfl) ?_ (fun hh0=>?_)
   ·(try dsimp only);refine HK.out _ ?_;(repeat with_reducible (first|exact gg|exact Chg.refl _ _|refine Chg.drew ?_|refine Chg.alloc ?_ _|refine Chg.setCell ?_ (by simp) _))
   refine regTk 0 hh0 ?_
   refine regTk 1 hh0 ?_
   refine regTk 2 hh0 ?_
   refine regTk 4 hh0 ?_
   refine regCall 3 (fun K hK=>?_)
   go_simp
   refine (l01Next_any (w0:=w0) 8 FR.out.1.drew).mono ?_
   rintro e u8 ⟨m_,rfl,m_a,m_b,h_,c_⟩
   have cb:=((Chg.refl [b] u7).drew).trans c_
   replace FR:=hideIt (FR.out.next cb h_)
   replace LD:=hideIt (LD.out.chg cb NQ.out ZM.out)
   have gg:Chg [b,g] u7 u8:=cb.mono (by simp)
   clear h_ c_ cb
   have mc:=m_b (by omega)
   obtain ⟨m,rfl⟩:∃m:Nat,m_=(m:Int):=⟨m_.toNat,by omega⟩
   have m8:m<8:=by omega
   have m8i:(m:Int)<8:=by omega
   clear m_a m_b mc
   (try go_wp2_with fail)
   refine hK.out _ _ ?_ (fun hh1=>?_)
   ·(try dsimp only);refine HK.out _ ?_;(repeat with_reducible (first|exact gg|exact Chg.refl _ _|refine Chg.drew ?_|refine Chg.alloc ?_ _|refine Chg.setCell ?_ (by simp) _))
   clear hK K hh0
   try simp only [Act.put,List.setIfInBounds_toArray,List.set_cons_zero,List.set_cons_succ]
   refine regCall 5 (fun K hK=>?_)
   go_simp
   refine (l03DrawAny_any (w0:=w0) FR.out.1).mono ?_
   rintro e u9 ⟨B1,k1,B2,k2,B3,k3,y,rfl,cw,h_,c_⟩
   have gg:Chg [b,g] u7 u9:=gg.trans (c_.mono (by simp))
   have Z8:Hid (u4.heap.size<u8.heap.size):=hideIt (FR.out.2.2.1 (u4.heap.size,31,#[.slice A1 xs.length n1,.slice A2 ns.length n2,.slice A3 ps.length n3]) (by simp)).1.lt
   replace FR:=hideIt (FR.out.next c_ h_)
   replace LD:=hideIt (LD.out.chg c_ NQ.out ZM.out)
   have CW:=hideIt cw.sr
   clear h_ c_ cw
   obtain ⟨ql,lg,fg,cc⟩:=LD.out.lib8 (by rw [CL.out];decide)
   obtain ⟨v0,v1,v2,v3,v4,v5,v6,j0,j1,j2,j3,j4,j5,j6⟩:=cc m (by rw [CL.out];exact m8)
   clear cc ql
   (try go_wp2_with fail)
   refine hK.out _ _ ?_ (fun hh2=>?_)
   ·(try dsimp only);refine HK.out _ ?_;(repeat with_reducible (first|exact gg|exact Chg.refl _ _|refine Chg.drew ?_|refine Chg.alloc ?_ _|refine Chg.setCell ?_ (by simp) _))
   clear hK K hh1
   try simp only [Act.put,List.setIfInBounds_toArray,List.set_cons_zero,List.set_cons_succ]
   refine regTk 6 hh2 ?_
   refine regCall 7 (fun K hK=>?_)
   go_simp
   (try go_wp2_with fail)
   refine hK.out _ _ ?_ (fun hh3=>?_)
   ·(try dsimp only);refine HK.out _ ?_;(repeat with_reducible (first|exact gg|exact Chg.refl _ _|refine Chg.drew ?_|refine Chg.alloc ?_ _|refine Chg.setCell ?_ (by simp) _))
   clear hK K hh2
   try simp only [Act.put,List.setIfInBounds_toArray,List.set_cons_zero,List.set_cons_succ]
   refine wpAnyH_done (by kernel_rfl) ?_ _
   clear hh3 HK
   obtain ⟨⟨by_,hsy,hby⟩,hsm⟩:=CW.out
   go_wp2_with fail
   go_meet
   exact lde (A1:=A1) (FR.out.chg (ds:=[g]) (by repeat with_reducible (first|exact Chg.refl _ _|refine Chg.setCell ?_ (by simp) _)) (fun q hq=>by
     simp at hq
     subst hq
     have:=QL.out
     have:=Z1.out
     have:=Z3.out
     have:=Z4.out
     refine ⟨by omega,fun q hq=>?_⟩
     simp only [List.mem_cons,List.not_mem_nil,or_false] at hq
     rcases hq with rfl|rfl|rfl|rfl<;>(dsimp only;omega))) (LD.out.cellPut (es:=[.string y.name,.int .i64 y.kind,.slice B1 y.pins.length k1,.slice B2 y.arcs.length k2,.slice B3 y.truth.length k3,.int .i64 y.leak,.int .i64 y.energy]) (k:=m) (by rw [CL.out];exact m8) rfl hsy (fun q hq=>by have:=hby q hq;have:=Z8.out;have:=Z1.out;have:=Z3.out;have:=Z4.out;refine ⟨by omega,by omega,by simp;omega⟩) hsm rfl (by have:=Z1.out;have:=Z3.out;have:=ZM.out;omega) (by rw [CL.out];decide) (by omega) (by omega) (by omega) (fun g hg=>by have:=Z1.out;have:=Z3.out;simp at hg;omega)) (by rw [List.length_set];exact CL.out.symm) (by simp) (by simp) (by simp) (by first|omega|(simp;omega))
  ·have r0:(r==0)=false:=by simp;omega
   have r1:(r==1)=false:=by simp;omega
   have r2:(r==2)=false:=by simp;omega
   have r3:(r==3)=false:=by simp;omega
   have r4:(r==4)=false:=by simp;omega
   have r5:(r==5)=false:=by simp;omega
   have r6:(r==6)=false:=by simp;omega
   have r7:(r==7)=false:=by simp;omega
   have r8:(r==8)=false:=by simp;omega
   go_wp2_with fail
   go_meet
   exact lde (A1:=A1) FR.out (LD.out.weak (by have:=Z1.out;have:=Z3.out;have:=ZM.out;omega) (by rw [CL.out];decide) (by omega) (by omega) (by omega) (fun g hg=>by have:=Z1.out;have:=Z3.out;simp at hg;omega)) (CL.out.symm) (by simp) (by simp) (by simp) (by first|omega|(simp;omega))
 clear FR LD x2 x6 y5 y9 p3 p5
 obtain ⟨A0,n0,A1,n1,A2,n2,A3,n3,cs,xs,ns,ps,hf,hw,bnd⟩:=hcut
 obtain ⟨wz,rfl⟩:∃y:World,y=wc:=⟨_,rfl⟩
 have FZ:=hideIt hf
 have LZ:=hideIt hw
 clear hf hw
 go_upto_region 23 with fail
 have KL:=hideIt (FZ.out.2.2.1 (u1.heap.size,26,#[.slice A0 cs.length n0]) (by simp)).1
 have KD:=hideIt (FZ.out.2.2.1 (u4.heap.size,31,#[.slice A1 xs.length n1,.slice A2 ns.length n2,.slice A3 ps.length n3]) (by simp)).1
 have R2:=hideIt (FZ.out.2.2.1 (w.heap.size,26,#[.slice none 0 0]) (by simp)).1
 have R3:=hideIt (FZ.out.2.2.1 (w.heap.size+1,31,#[.slice none 0 0,.slice none 0 0,.slice none 0 0]) (by simp)).1
 have LL:Hid (∀w',Chg [w.heap.size,w.heap.size+1] wz w'→w'.cell? ⟨u1.heap.size,0,none⟩=some (.slice A0 cs.length n0)):=hideIt (fun w' c=>(KL.out.chg c (by have:=Z1.out;simp;omega)).cell 0)
 have DD:Hid (∀w',Chg [w.heap.size,w.heap.size+1] wz w'→w'.cell? ⟨u4.heap.size,0,none⟩=some (.slice A1 xs.length n1)∧w'.cell? ⟨u4.heap.size,1,none⟩=some (.slice A2 ns.length n2)∧w'.cell? ⟨u4.heap.size,2,none⟩=some (.slice A3 ps.length n3)):=hideIt (fun w' c=>by
  have h:=KD.out.chg c (by have:=Z1.out;have:=Z3.out;have:=Z4.out;simp;omega)
  exact ⟨h.cell 0,h.cell 1,h.cell 2⟩)
 have f2:=R2.out.frozen
 have l2:=R2.out.lt
 have y0:=R2.out.cell 0
 have f3:=R3.out.frozen
 have l3:=R3.out.lt
 have z0:=R3.out.cell 0
 have z1:=R3.out.cell 1
 have z2:=R3.out.cell 2
 simp at y0 z0 z1 z2
 refine wp_region_held_drew (S:=(fun w'=>Chg [w.heap.size,w.heap.size+1] wz w')) (by kernel_rfl) ?_ (fun hh0=>?_)
 ·(try dsimp only);(repeat with_reducible (first|exact gg|exact Chg.refl _ _|refine Chg.drew ?_|refine Chg.alloc ?_ _|refine Chg.setCell ?_ (by simp) _))
 refine regTake 0 (v:=.agg #[.slice A0 cs.length n0]) (fun w hw=>?_) hh0 ?_
 ·have k0:=LL.out w hw
  go_simp
 try simp only [Act.put,List.setIfInBounds_toArray,List.set_cons_zero,List.set_cons_succ]
 refine regTake 1 (v:=.agg #[.slice A1 xs.length n1,.slice A2 ns.length n2,.slice A3 ps.length n3]) (fun w hw=>?_) hh0 ?_
 ·obtain ⟨k0,k1,k2⟩:=DD.out w hw
  go_simp
 try simp only [Act.put,List.setIfInBounds_toArray,List.set_cons_zero,List.set_cons_succ]
 refine regCall 2 (fun K hK=>?_)
 go_simp
 (try go_wp2_with fail)
 refine hK.out _ _ ?_ (fun hh1=>?_)
 ·(try dsimp only);(repeat with_reducible (first|exact gg|exact Chg.refl _ _|refine Chg.drew ?_|refine Chg.alloc ?_ _|refine Chg.setCell ?_ (by simp) _))
 clear hK K hh0
 try simp only [Act.put,List.setIfInBounds_toArray,List.set_cons_zero,List.set_cons_succ]
 refine regCall 3 (fun K hK=>?_)
 go_simp
 (try go_wp2_with fail)
 refine hK.out _ _ ?_ (fun hh2=>?_)
 ·(try dsimp only);(repeat with_reducible (first|exact gg|exact Chg.refl _ _|refine Chg.drew ?_|refine Chg.alloc ?_ _|refine Chg.setCell ?_ (by simp) _))
 clear hK K hh1
 try simp only [Act.put,List.setIfInBounds_toArray,List.set_cons_zero,List.set_cons_succ]
 refine wpAnyH_done (by kernel_rfl) ?_ _
 clear hh2
 go_wp2
 refine bodyPost_ret (by simp [*,results,Tryz.results35,go_sem];try rfl) rfl ?_
 refine ld_fin FZ.out LZ.out rfl rfl rfl rfl bnd ?_
 repeat with_reducible (first|exact Chg.refl _ _|refine Chg.drew ?_|refine Chg.setCell ?_ (by simp) _)
end Go.Proofs.YtlnpefiipdkafaaGreatDoor
/-
  Drawn arguments of the laws over designs; laws.hasInt.
-/
namespace Go.Proofs.YtlnpefiipdkafaaGreatDoor
open Go.RowKit
/-- a library and a design, to be read -/
def LDR (u:World) (vl:Value) (cs:List CellD) (vi:Value) (xs:List InstD) (vn:Value) (ns:List ByteArray) (vp:Value) (ps:List PortD):Prop :=
 RCells u vl cs∧RDesign u [vi,vn,vp] ⟨xs,ns,ps⟩∧SmCells cs∧SmDesign ⟨xs,ns,ps⟩∧(xs.length≤6∧5≤ns.length∧ns.length≤10∧3≤ps.length∧ps.length≤5)
theorem LDW.now {lo:Nat} {ex:List Nat} {u:World} {vl vi vn vp:Value} {cs:List CellD} {xs:List InstD} {ns:List ByteArray} {ps:List PortD} (h:LDW lo ex u vl cs vi xs vn ns vp ps) (hn:xs.length≤6∧5≤ns.length∧ns.length≤10∧3≤ps.length∧ps.length≤5):LDR u vl cs vi xs vn ns vp ps:=by
 obtain ⟨⟨bs,h1,h2⟩,h3,h4⟩:=h
 obtain ⟨k1,k2,k3,k4⟩:=h1 u (SameOn.refl _ _)
 exact ⟨k1,⟨_,_,_,rfl,k2,k3,k4⟩,h3,h4,hn⟩
def DesR (w:World) (e:Ending) (w':World):Prop :=
 ∃(A0:Option Addr) (n0:Nat) (A1:Option Addr) (n1:Nat) (A2:Option Addr) (n2:Nat) (A3:Option Addr) (n3:Nat) (cs:List CellD) (xs:List InstD) (ns:List ByteArray) (ps:List PortD),e=.returned (.tuple #[.agg #[.slice A0 cs.length n0],.agg #[.slice A1 xs.length n1,.slice A2 ns.length n2,.slice A3 ps.length n3]])∧(xs.length≤6∧5≤ns.length∧ns.length≤10∧3≤ps.length∧ps.length≤5)∧LDW w.heap.size [] w' (.slice A0 cs.length n0) cs (.slice A1 xs.length n1) xs (.slice A2 ns.length n2) ns (.slice A3 ps.length n3) ps∧Grows w w'
def DesZ (w:World) (e:Ending) (w':World):Prop :=
 ∃(A0:Option Addr) (n0:Nat) (A1:Option Addr) (n1:Nat) (A2:Option Addr) (n2:Nat) (A3:Option Addr) (n3:Nat) (cs:List CellD) (xs:List InstD) (ns:List ByteArray) (ps:List PortD) (z:Int),e=.returned (.tuple #[.agg #[.slice A0 cs.length n0],.agg #[.slice A1 xs.length n1,.slice A2 ns.length n2,.slice A3 ps.length n3],.int .i64 z])∧(xs.length≤6∧5≤ns.length∧ns.length≤10∧3≤ps.length∧ps.length≤5)∧LDW w.heap.size [] w' (.slice A0 cs.length n0) cs (.slice A1 xs.length n1) xs (.slice A2 ns.length n2) ns (.slice A3 ps.length n3) ps∧Grows w w'
theorem des_end {w u w9:World} {lo:Nat} {vl vi vn vp:Value} {cs:List CellD} {xs:List InstD} {ns:List ByteArray} {ps:List PortD} (g:Grows w u) (ld:LDW lo [] u vl cs vi xs vn ns vp ps) (c9:Chg [w.heap.size,w.heap.size+1] u w9) (hlo:w.heap.size+2≤lo):LDW w.heap.size [] w9 vl cs vi xs vn ns vp ps∧Grows w w9 :=
 ⟨(ld.next c9 (fun g hg=>by simp at hg;omega)).imp (by omega),g.chg c9 (fun g hg=>by simp at hg;omega)⟩
theorem LDR.keep {u u':World} {vl vi vn vp:Value} {cs:List CellD} {xs:List InstD} {ns:List ByteArray} {ps:List PortD} (h:LDR u vl cs vi xs vn ns vp ps) (g:Grows u u'):LDR u' vl cs vi xs vn ns vp ps:=by
 obtain ⟨h1,h2,h3⟩:=h
 exact ⟨RCells.keep h1 g.keeps,h2.keep g.keeps,h3⟩
set_option maxHeartbeats 8000000 in
set_option maxRecDepth 10000 in
theorem drawPlaceCount_any {v:Value} {zs:List Int} {w:World} (hx:RBytes w v zs):Calls Tryz.prog 8 #[v] w (DesR w):=by
 have HX:=hideIt hx
 clear hx
 have R0:Hid (Blk ((w.alloc (.cells #[.slice none 0 0] 26)).alloc (.cells #[.slice none 0 0,.slice none 0 0,.slice none 0 0] 31)) w.heap.size 26 #[.slice none 0 0]):=hideIt ((Blk.new w _ _).grows ((Grows.refl _).alloc _))
 have R1:Hid (Blk ((w.alloc (.cells #[.slice none 0 0] 26)).alloc (.cells #[.slice none 0 0,.slice none 0 0,.slice none 0 0] 31)) (w.heap.size+1) 31 #[.slice none 0 0,.slice none 0 0,.slice none 0 0]):=hideIt (by have e:(w.alloc (.cells #[.slice none 0 0] 26)).heap.size=w.heap.size+1:=(by simp);have h:=Blk.new (w.alloc (.cells #[.slice none 0 0] 26)) 31 #[.slice none 0 0,.slice none 0 0,.slice none 0 0];rw [e] at h;exact h)
 have G2:Hid (Grows w ((w.alloc (.cells #[.slice none 0 0] 26)).alloc (.cells #[.slice none 0 0,.slice none 0 0,.slice none 0 0] 31))):=hideIt (((Grows.refl w).alloc _).alloc _)
 go_enter Tryz.func8,Tryz.ntmps8
 go_wp2_with fail
 refine (l01From_at HX.out G2.out).mono ?_
 rintro e u0 ⟨b,rfl,h_,hb_,g_⟩
 have HB:Hid (w.heap.size+2≤b):=hideIt (by simpa using hb_)
 have HS:=hideIt h_
 have LB:Hid (b<u0.heap.size):=hideIt h_.ge.2.2
 replace R0:=hideIt (R0.out.grows g_)
 replace R1:=hideIt (R1.out.grows g_)
 clear h_ hb_ g_
 have NR:Hid (w.heap.size∉[b]∧w.heap.size+1∉[b]):=hideIt (by have:=HB.out;simp;omega)
 go_wp2_with fail
 refine (l05DrawAny_any (w0:=w) HS.out).mono ?_
 rintro e u1 ⟨A0,n0,A1,n1,A2,n2,A3,n3,cs,xs,ns,ps,rfl,ld,⟨x6,y5,y10,p3,p5⟩,h_,c_⟩
 replace HS:=hideIt h_
 replace R0:=hideIt (R0.out.chg c_ NR.out.1)
 replace R1:=hideIt (R1.out.chg c_ NR.out.2)
 have S1:Hid (u0.heap.size≤u1.heap.size):=hideIt c_.size
 have LD:=hideIt ld
 clear ld h_ c_
 have f0:=R0.out.frozen
 have l0:=R0.out.lt
 have k0:=R0.out.cell 0
 have f1:=R1.out.frozen
 have l1:=R1.out.lt
 have z0:=R1.out.cell 0
 have z1:=R1.out.cell 1
 have z2:=R1.out.cell 2
 simp at k0 z0 z1 z2
 go_wp2
 refine bodyPost_ret (by simp [*,results,Tryz.results8,go_sem];try rfl) rfl ?_
 exact ⟨A0,n0,A1,n1,A2,n2,A3,n3,cs,xs,ns,ps,rfl,⟨x6,y5,y10,p3,p5⟩,des_end HS.out.ge.2.1 LD.out (by repeat with_reducible (first|exact Chg.refl _ _|refine Chg.setCell ?_ (by simp) _)) (by have:=HB.out;have:=LB.out;omega)⟩
set_option maxHeartbeats 2000000 in
theorem hasInt_any {v:Value} {xs:List Int} (z:Int) (w:World) (h:RInts w v xs):Calls Tryz.prog 20 #[v,.int .i64 z] w fun e w'=>e=.returned (.bool (decide (z∈xs)))∧Grows w w':=by
 have l1:=h.len
 obtain ⟨A,c,rfl,hle,hc,hx⟩:=h.form
 have HX:=hideIt hx
 clear hx h hle hc
 go_enter Tryz.func20,Tryz.ntmps20
 go_wp2
 go_loopw [5] (fun i wr=>∃k:Nat,k≤xs.length∧i=.int .i64 k∧Hid (∀j,j<k→xs[j]?≠some z)∧Hid (Grows w wr)) (fun i _=>xs.length - (intOf i).toNat)
 case atStart=>exact ⟨0,Nat.zero_le _,rfl,hideIt (fun i hi=>absurd hi (by omega)),hideIt (Grows.refl _)⟩
 case round =>
  obtain ⟨k,hk,rfl,NO,G⟩:=hrel
  by_cases hlt:k<xs.length
  ·obtain ⟨x,hx⟩:∃x,xs[k]?=some x:=⟨_,List.getElem?_eq_getElem hlt⟩
   obtain ⟨b,off,rfl,cs,hl1,hcs,hr⟩:=HX.out k x hx
   unfold RI at hr
   subst hr
   have hs:wr.cell? ⟨b,off+k,none⟩=some (.int .i64 x):=by simpa using G.out.keeps _ _ (hcs 0 _ rfl)
   have X1:=hideIt hx
   clear hcs hl1 hx
   cases hxz:(x==z)
   ·have XZ:=hideIt hxz
    go_wp2
    go_roundw
    case rel=>exact ⟨k+1,by omega,by go_num,hideIt (fun j hj=>by
     by_cases e:j=k
     ·subst e;rw [X1.out];have:=XZ.out;simpa using this
     ·exact NO.out j (by omega)),G⟩
    case measure=>simp [intOf];omega
   ·have XZ:=hideIt hxz
    have HM:Hid (decide (z∈xs)=true):=hideIt (decide_eq_true (List.mem_of_getElem? (X1.out.trans (congrArg some (by simpa using XZ.out)))))
    go_wp2
    go_ret
    exact ⟨by rw [HM.out];rfl,G.out⟩
  ·obtain rfl:k=xs.length:=by omega
   have HM:Hid (decide (z∈xs)=false):=hideIt (decide_eq_false (fun hm=>by
    obtain ⟨j,hj⟩:=List.getElem?_of_mem hm
    exact NO.out j (List.getElem?_eq_some_iff.1 hj).1 hj))
   go_wp2
   go_ret
   exact ⟨by rw [HM.out];rfl,G.out⟩
end Go.Proofs.YtlnpefiipdkafaaGreatDoor
