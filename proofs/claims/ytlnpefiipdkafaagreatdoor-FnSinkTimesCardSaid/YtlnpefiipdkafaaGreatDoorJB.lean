/-
  The reference's slew at a sink.
-/
import Derived.Test.YtlnpefiipdkafaaGreatDoorHT
import Derived.Test.YtlnpefiipdkafaaGreatDoorHS
import Derived.Test.YtlnpefiipdkafaaGreatDoorHZ
namespace Go.Proofs.YtlnpefiipdkafaaGreatDoor
open Go.RowKit

set_option maxHeartbeats 16000000 in
set_option maxRecDepth 10000 in
theorem sSlew_any {lv a b c wv:Value} {cs:List CellD} {d:DesignD} {ws:List WireD} {x:WireD} (k s:Nat) (sl m:Int) (w:World) (hl:RCells w lv cs) (hd:RDesign w [a,b,c] d) (hw:RWires w wv ws) (hb:BlkP cs d ws) (hx:ws[k]?=some x) (hs:s<x.sink.length) (sl1:0≤sl) (sl2:sl≤1000000) (hm:isM m=true) :
  Calls Tryz.prog 75 #[.agg #[lv,a,b,c,wv],.int .i64 (k:Int),.int .i64 (s:Int),.int .i64 sl,.int .i64 m] w fun e w'=>e=.returned (.int .i64 (slewR sl (dlyV cs d x (k:Int) s) m))∧Grows w w':=by
 have cl:=RList.len hl
 have wl:=RList.len hw
 obtain ⟨C,nc,rfl⟩:∃(D:Option Addr) (q:Nat),lv=.slice D cs.length q:=by obtain ⟨D,q,e,-⟩:=RList.form hl;exact ⟨D,q,e⟩
 obtain ⟨W,nw,rfl⟩:∃(D:Option Addr) (q:Nat),wv=.slice D ws.length q:=by obtain ⟨D,q,e,-⟩:=RList.form hw;exact ⟨D,q,e⟩
 have nl:=RList.len hd.parts.2.1
 obtain ⟨I,N,O,ni,nn,no,rfl,rfl,rfl⟩:=des_open hd
 have hT:=wireT_of (hb.wire k x hx)
 have n1:=hT.n1
 have n8:=hT.n8
 have ncap:=hT.cap
 have nres:=hT.res
 have nsink:=hT.sink
 have klt:k<ws.length:=(List.getElem?_eq_some_iff.1 hx).1
 have k1:(k:Int)<(ws.length:Int):=by omega
 have k2:(0:Int)≤(k:Int):=by omega
 obtain ⟨bw,ow,A0,A1,A2,A3,m0,m1,m2,m3,rfl,q0,q1,q2,q3,hxr⟩:=wires_at hw hx
 have lbw:=cell_lt q0
 simp at lbw
 have ncap1:x.cap.length≤x.parent.length:=by omega
 have ncap2:x.parent.length≤x.cap.length:=by omega
 have ns1:x.sink.length≤(sinksL d (k:Int)).length:=by omega
 have ns2:(sinksL d (k:Int)).length≤x.sink.length:=by omega
 have nr1:x.res.length≤x.parent.length:=by omega
 have nr2:x.parent.length≤x.res.length:=by omega
 have HT:=hideIt hT
 have DP:=hideIt hb.des
 have HX:=hideIt hx
 have mb:=sinksL_len hb.des (k:Int)
 have BP:=hideIt hb
 have hm2:=isM_01 hm
 have M2:=hideIt hm2
 have DB:=hideIt (dlyV_bd DP.out HT.out s)
 have DLEN:=hideIt (delaysL_len (cs:=cs) (d:=d) (x:=x) (n:=(k:Int)) (by omega))
 obtain ⟨nd,hnd⟩:∃nd:Nat,x.sink.getD s 0=(nd:Int):=⟨(x.sink.getD s 0).toNat,by have:=(HT.out.sb s (by omega)).1;omega⟩
 have ndlt:nd<x.parent.length:=by have:=(HT.out.sb s (by omega)).2;rw [hnd] at this;simpa using this
 have hsk:x.sink[s]?=some (nd:Int):=by rw [←hnd];exact getD_at (by omega)
 have DE:=hideIt (show (delaysL cs d x (k:Int)).getD nd 0=dlyV cs d x (k:Int) s by unfold dlyV;rw [hnd,Int.toNat_natCast])
 have SR:=hideIt (fun (a:Int) (ha:IsRt (4 * slewX sl (dlyV cs d x (k:Int) s)) a)=>slewR_eq (slew_spec hm2 ha (by
  have h:=rt_ex (slewX sl (dlyV cs d x (k:Int) s)).toNat
  have h1:=slewX_bd sl1 sl2 DB.out.1 DB.out.2
  rw [Int.toNat_of_nonneg (by unfold slewX;omega)] at h
  exact h)))
 obtain ⟨bs,os,rfl,qs⟩:=ints_at hxr.open_.2.2.2 hsk
 have l3:(s:Int)<(x.sink.length:Int):=by omega
 have l4:(0:Int)≤(s:Int):=by omega
 clear hT hb hx ncap nres nsink hnd hsk hm hm2
 have g:Grows w w:=Grows.refl w
 have G:Hid (Grows w (w.alloc (.cells #[.slice C cs.length nc,.slice I d.insts.length ni,.slice N d.nets.length nn,.slice O d.ports.length no,.slice (some ⟨bw,ow,none⟩) ws.length nw] 49))):=hideIt ((Grows.refl w).alloc _)
 clear g
 have SB:Hid (Blk (w.alloc (.cells #[.slice C cs.length nc,.slice I d.insts.length ni,.slice N d.nets.length nn,.slice O d.ports.length no,.slice (some ⟨bw,ow,none⟩) ws.length nw] 49)) (w.heap.size) 49 #[.slice C cs.length nc,.slice I d.insts.length ni,.slice N d.nets.length nn,.slice O d.ports.length no,.slice (some ⟨bw,ow,none⟩) ws.length nw]):=by
  have:=(Blk.new w 49 #[.slice C cs.length nc,.slice I d.insts.length ni,.slice N d.nets.length nn,.slice O d.ports.length no,.slice (some ⟨bw,ow,none⟩) ws.length nw]).grows (Grows.refl (w.alloc (.cells #[.slice C cs.length nc,.slice I d.insts.length ni,.slice N d.nets.length nn,.slice O d.ports.length no,.slice (some ⟨bw,ow,none⟩) ws.length nw] 49)))
  exact hideIt (by simpa using this)
 replace hl:=hideIt (hl.keep G.out.keeps)
 replace hd:=hideIt (hd.keep G.out.keeps)
 replace hw:=hideIt (hw.keep G.out.keeps)
 go_enter Tryz.func75,Tryz.ntmps75
 have GB0:=G
 have K0:∀w',Grows (w.alloc (.cells #[.slice C cs.length nc,.slice I d.insts.length ni,.slice N d.nets.length nn,.slice O d.ports.length no,.slice (some ⟨bw,ow,none⟩) ws.length nw] 49)) w'→w'.cell? ⟨w.heap.size,0,none⟩=some (.slice C cs.length nc)∧w'.cell? ⟨w.heap.size,1,none⟩=some (.slice I d.insts.length ni)∧w'.cell? ⟨w.heap.size,2,none⟩=some (.slice N d.nets.length nn)∧w'.cell? ⟨w.heap.size,3,none⟩=some (.slice O d.ports.length no)∧w'.cell? ⟨w.heap.size,4,none⟩=some (.slice (some ⟨bw,ow,none⟩) ws.length nw)∧w'.cell? ⟨bw,ow+k * 4+3,none⟩=some (.slice (some ⟨bs,os,none⟩) x.sink.length m3)∧w'.cell? ⟨bs,os+s,none⟩=some (.int .i64 (nd:Int))∧Grows (w.alloc (.cells #[.slice C cs.length nc,.slice I d.insts.length ni,.slice N d.nets.length nn,.slice O d.ports.length no,.slice (some ⟨bw,ow,none⟩) ws.length nw] 49)) w':=fun w' G=>⟨(G.cells.1 _ _ SB.out.lt).trans (SB.out.cell 0),(G.cells.1 _ _ SB.out.lt).trans (SB.out.cell 1),(G.cells.1 _ _ SB.out.lt).trans (SB.out.cell 2),(G.cells.1 _ _ SB.out.lt).trans (SB.out.cell 3),(G.cells.1 _ _ SB.out.lt).trans (SB.out.cell 4),G.keeps _ _ (GB0.out.keeps _ _ q3),G.keeps _ _ (GB0.out.keeps _ _ qs),G⟩
 have HK:=hideIt K0
 clear K0
 have gg:Grows (w.alloc (.cells #[.slice C cs.length nc,.slice I d.insts.length ni,.slice N d.nets.length nn,.slice O d.ports.length no,.slice (some ⟨bw,ow,none⟩) ws.length nw] 49)) (w.alloc (.cells #[.slice C cs.length nc,.slice I d.insts.length ni,.slice N d.nets.length nn,.slice O d.ports.length no,.slice (some ⟨bw,ow,none⟩) ws.length nw] 49)):=Grows.refl _
 go_wp2
 refine wp_region_held_drew (S:=(fun w'=>w'.cell? ⟨w.heap.size,0,none⟩=some (.slice C cs.length nc)∧w'.cell? ⟨w.heap.size,1,none⟩=some (.slice I d.insts.length ni)∧w'.cell? ⟨w.heap.size,2,none⟩=some (.slice N d.nets.length nn)∧w'.cell? ⟨w.heap.size,3,none⟩=some (.slice O d.ports.length no)∧w'.cell? ⟨w.heap.size,4,none⟩=some (.slice (some ⟨bw,ow,none⟩) ws.length nw)∧w'.cell? ⟨bw,ow+k * 4+3,none⟩=some (.slice (some ⟨bs,os,none⟩) x.sink.length m3)∧w'.cell? ⟨bs,os+s,none⟩=some (.int .i64 (nd:Int))∧Grows (w.alloc (.cells #[.slice C cs.length nc,.slice I d.insts.length ni,.slice N d.nets.length nn,.slice O d.ports.length no,.slice (some ⟨bw,ow,none⟩) ws.length nw] 49)) w')) (by kernel_rfl) ?_ (fun hh0=>?_)
 ·(try dsimp only);exact HK.out _ gk
 refine regTk 0 hh0 ?_
 refine regTk 1 hh0 ?_
 refine regTk 3 hh0 ?_
 refine regTk 4 hh0 ?_
 refine regTk 5 hh0 ?_
 refine regTk 6 hh0 ?_
 refine regTk 7 hh0 ?_
 refine regTk 8 hh0 ?_
 refine regTk 9 hh0 ?_
 refine regTk 10 hh0 ?_
 refine regTk 11 hh0 ?_
 refine regCall 2 (fun K hK=>?_)
 go_simp
 refine (sDelays_any k _ (hl.out.keep (Grows.keeps gk)) (hd.out.keep (Grows.keeps gk)) (hw.out.keep (Grows.keeps gk)) BP.out HX.out).mono ?_
 rintro e wx ⟨A9,c9,b9,rfl,o,ow9,g⟩
 have dl1:=DLEN.out
 obtain ⟨D,eD⟩:∃D:List Int,D=delaysL cs d x (k:Int):=⟨_,rfl⟩
 rw [←eD] at o dl1 ⊢
 have hdk:D[nd]?=some (D.getD nd 0):=getD_at (by omega)
 obtain ⟨dv,hdv⟩:∃dv,dv=D.getD nd 0:=⟨_,rfl⟩
 have ED:Hid (dv=dlyV cs d x (k:Int) s):=hideIt (by rw [hdv,eD];exact DE.out)
 rw [←hdv] at hdk
 obtain ⟨bd,od,rfl,qd⟩:=ints_at o.reads hdk
 have l5:(nd:Int)<(D.length:Int):=by omega
 have l6:(0:Int)≤(nd:Int):=by omega
 replace gg:=gg.gt g
 clear g o ow9 hdk hdv eD dl1
 (try go_wp2_with fail)
 refine hK.out _ _ ?_ (fun hh1=>?_)
 ·(try dsimp only);exact HK.out _ gk
 clear hK K hh0
 try simp only [Act.put,List.setIfInBounds_toArray,List.set_cons_zero,List.set_cons_succ]
 refine regTk 12 hh1 ?_
 refine regCall 13 (fun K hK=>?_)
 go_simp
 (try go_wp2_with fail)
 refine hK.out _ _ ?_ (fun hh2=>?_)
 ·(try dsimp only);exact HK.out _ gk
 clear hK K hh1
 try simp only [Act.put,List.setIfInBounds_toArray,List.set_cons_zero,List.set_cons_succ]
 refine regTk 14 hh2 ?_
 refine wpAnyH_done (by kernel_rfl) ?_ _
 clear hh2 HK qd
 have GX:=hideIt (show Grows (w.alloc (.cells #[.slice C cs.length nc,.slice I d.insts.length ni,.slice N d.nets.length nn,.slice O d.ports.length no,.slice (some ⟨bw,ow,none⟩) ws.length nw] 49)) wx from gg)
 have db1:0≤dv:=by rw [ED.out];exact DB.out.1
 have db2:dv≤301000000:=by rw [ED.out];exact DB.out.2
 obtain ⟨⟨a1,a2⟩,a3,a4⟩:=slewX_bd sl1 sl2 db1 db2
 have e1:1000000 * sl * sl=1000000 * (sl * sl):=by rw [Int.mul_assoc]
 have e2:4 * dv * dv=4 * (dv * dv):=by rw [Int.mul_assoc]
 have wr1:IntKind.i64.wrap (1000000 * sl)=1000000 * sl:=Go.IntWalk.i64_in _ (by omega)
 have wr2:IntKind.i64.wrap (1000000 * sl * sl)=1000000 * (sl * sl):=by rw [e1];exact Go.IntWalk.i64_in _ (by omega)
 have wr3:IntKind.i64.wrap (4 * dv)=4 * dv:=Go.IntWalk.i64_in _ (by omega)
 have wr4:IntKind.i64.wrap (4 * dv * dv)=4 * (dv * dv):=by rw [e2];exact Go.IntWalk.i64_in _ (by omega)
 obtain ⟨X,hX⟩:∃X,X=1000000 * (sl * sl)+4 * (dv * dv):=⟨_,rfl⟩
 have wr5:IntKind.i64.wrap (1000000 * (sl * sl)+4 * (dv * dv))=X:=by rw [←hX];exact Go.IntWalk.i64_in _ (by omega)
 have x1:0≤X:=by omega
 have x2:X≤2000000000000000000:=by omega
 have EX:=hideIt (show X=4 * slewX sl (dlyV cs d x (k:Int) s) by rw [←ED.out];unfold slewX;omega)
 clear e1 e2 hX a1 a2 a3 a4 db1 db2
 go_wp2_with fail
 refine (l07Root_any X m _ x1 x2).mono ?_
 rintro e w1 ⟨⟨r,hr,hle,rfl⟩,rfl⟩
 have RS:=hideIt (SR.out r (by rw [←EX.out];exact hr))
 have UP:=hideIt (show upR X r m=if m=1∧r * r<4 * slewX sl (dlyV cs d x (k:Int) s) then r+1 else r by rw [←EX.out];rfl)
 have ub:-1≤upR X r m∧upR X r m≤2000000001:=by have:=hr.1;unfold upR;split<;>omega
 obtain ⟨up,hup⟩:∃up,up=upR X r m:=⟨_,rfl⟩
 rw [←hup] at ub UP ⊢
 have RE:=hideIt (show rdv up 1000 m=slewR sl (dlyV cs d x (k:Int) s) m by rw [UP.out];exact RS.out)
 clear hr hle hup
 go_wp2_with (go_at_call 100;refine (l01Div_any _ _ _ _ (by omega) (by omega) (by omega)).mono ?_;rintro e w' ⟨rfl,rfl⟩)
 go_ret
 exact ⟨ret_int RE.out,G.out.trans (by repeat (first|exact GX.out|refine Grows.drew ?_))⟩

set_option maxHeartbeats 16000000 in
set_option maxRecDepth 10000 in
theorem sSinkSlew_any {lv a b c wv:Value} {cs:List CellD} {d:DesignD} {ws:List WireD} (n:Int) (s:Int) (sl:Int) (m:Int) (w:World) (hl:RCells w lv cs) (hd:RDesign w [a,b,c] d) (hw:RWires w wv ws) :
  Calls Tryz.prog 32 #[.agg #[lv,a,b,c,wv],.int .i64 n,.int .i64 s,.int .i64 sl,.int .i64 m] w fun e w'=>e=.returned (.tuple #[.int .i64 (slewVal cs d ws n s sl m),.int .i64 (slewCode cs d ws n s sl m)])∧Grows w w':=by
 have cl:=RList.len hl
 have wl:=RList.len hw
 obtain ⟨C,nc,rfl⟩:∃(D:Option Addr) (q:Nat),lv=.slice D cs.length q:=by obtain ⟨D,q,e,-⟩:=RList.form hl;exact ⟨D,q,e⟩
 obtain ⟨W,nw,rfl⟩:∃(D:Option Addr) (q:Nat),wv=.slice D ws.length q:=by obtain ⟨D,q,e,-⟩:=RList.form hw;exact ⟨D,q,e⟩
 have nl:=RList.len hd.parts.2.1
 obtain ⟨I,N,O,ni,nn,no,rfl,rfl,rfl⟩:=des_open hd
 have g:Grows w w:=Grows.refl w
 have G:Hid (Grows w (w.alloc (.cells #[.slice C cs.length nc,.slice I d.insts.length ni,.slice N d.nets.length nn,.slice O d.ports.length no,.slice W ws.length nw] 49))):=hideIt ((Grows.refl w).alloc _)
 clear g
 have SB:Hid (Blk (w.alloc (.cells #[.slice C cs.length nc,.slice I d.insts.length ni,.slice N d.nets.length nn,.slice O d.ports.length no,.slice W ws.length nw] 49)) (w.heap.size) 49 #[.slice C cs.length nc,.slice I d.insts.length ni,.slice N d.nets.length nn,.slice O d.ports.length no,.slice W ws.length nw]):=by
  have:=(Blk.new w 49 #[.slice C cs.length nc,.slice I d.insts.length ni,.slice N d.nets.length nn,.slice O d.ports.length no,.slice W ws.length nw]).grows (Grows.refl (w.alloc (.cells #[.slice C cs.length nc,.slice I d.insts.length ni,.slice N d.nets.length nn,.slice O d.ports.length no,.slice W ws.length nw] 49)))
  exact hideIt (by simpa using this)
 replace hl:=hideIt (hl.keep G.out.keeps)
 replace hd:=hideIt (hd.keep G.out.keeps)
 replace hw:=hideIt (hw.keep G.out.keeps)
 go_enter Tryz.func32,Tryz.ntmps32
 go_wp2_with fail
 refine (sCode_any n _ hl.out hd.out hw.out).mono ?_
 rintro e u1 ⟨rfl,g⟩
 replace G:=hideIt (G.out.trans g)
 replace hl:=hideIt (hl.out.keep g.keeps)
 replace hd:=hideIt (hd.out.keep g.keeps)
 replace hw:=hideIt (hw.out.keep g.keeps)
 replace SB:=hideIt (SB.out.grows g)
 clear g
 have kSB_0:u1.cell? ⟨w.heap.size,0,none⟩=some (.slice C cs.length nc):=SB.out.cell 0
 have kSB_1:u1.cell? ⟨w.heap.size,1,none⟩=some (.slice I d.insts.length ni):=SB.out.cell 1
 have kSB_2:u1.cell? ⟨w.heap.size,2,none⟩=some (.slice N d.nets.length nn):=SB.out.cell 2
 have kSB_3:u1.cell? ⟨w.heap.size,3,none⟩=some (.slice O d.ports.length no):=SB.out.cell 3
 have kSB_4:u1.cell? ⟨w.heap.size,4,none⟩=some (.slice W ws.length nw):=SB.out.cell 4
 have fSB:=SB.out.frozen
 have lSB:w.heap.size<u1.heap.size:=SB.out.lt
 by_cases hc:codeV cs d ws n=0
 case neg =>
  have E2:=hideIt (slew_no (s:=s) (sl:=sl) (m:=m) hc)
  obtain ⟨cd,ecd⟩:∃z:Int,z=codeV cs d ws n:=⟨_,rfl⟩
  have tc:(cd != 0)=true:=by rw [bne_iff_ne,ecd];exact hc
  rw [←ecd] at E2 ⊢
  clear ecd hc
  go_wp2
  refine bodyPost_ret (by simp [*,results,Tryz.results32,go_sem];try rfl) rfl ?_
  exact ⟨ret_two E2.out.1.symm E2.out.2.symm,G.out⟩
 have EC:=hideIt hc
 obtain ⟨bp,k,rfl,klt⟩:=codeV_0 hc
 have BP:=hideIt bp
 obtain ⟨x,hx⟩:∃x,ws[k]?=some x:=⟨_,List.getElem?_eq_getElem klt⟩
 have HX:=hideIt hx
 rw [hc]
 clear hc bp hx
 obtain ⟨bw,ow,A0,A1,A2,A3,m0,m1,m2,m3,rfl,q0,q1,q2,q3,hxr⟩:=wires_at hw.out HX.out
 have k1:(k:Int)<(ws.length:Int):=by omega
 have k2:(0:Int)≤(k:Int):=by omega
 have xl:(x.sink.length:Int)≤9223372036854775807:=RList.len hxr.open_.2.2.2
 have wr1:IntKind.i64.wrap ((x.sink.length:Int) - 1)=(x.sink.length:Int) - 1:=Go.IntWalk.i64_in _ (by omega)
 clear hxr
 go_wp2_with fail
 refine (l01In_any _ _ _ _).mono ?_
 rintro e wq ⟨rfl,rfl⟩
 cases t1:inB s 0 ((x.sink.length:Int) - 1)
 ·have E:=hideIt (slew_out EC.out HX.out (s:=s) (sl:=sl) (m:=m) (by unfold tests;rw [t1];rfl))
  clear t1
  go_wp2
  refine bodyPost_ret (by simp [*,results,Tryz.results32,go_sem];try rfl) rfl ?_
  exact ⟨ret_two E.out.1.symm E.out.2.symm,G.out⟩
 have T1:=hideIt t1
 clear t1
 go_wp2_with fail
 refine (l01In_any _ _ _ _).mono ?_
 rintro e wq ⟨rfl,rfl⟩
 cases t2:inB sl 0 1000000
 ·have E:=hideIt (slew_out EC.out HX.out (s:=s) (sl:=sl) (m:=m) (by unfold tests;rw [T1.out,t2];rfl))
  clear t2
  go_wp2
  refine bodyPost_ret (by simp [*,results,Tryz.results32,go_sem];try rfl) rfl ?_
  exact ⟨ret_two E.out.1.symm E.out.2.symm,G.out⟩
 have T2:=hideIt t2
 clear t2
 go_wp2_with fail
 refine (l01Mode_any _ _).mono ?_
 rintro e wq ⟨rfl,rfl⟩
 cases t3:isM m
 ·have E:=hideIt (slew_out EC.out HX.out (s:=s) (sl:=sl) (m:=m) (by unfold tests;rw [T1.out,T2.out,t3];rfl))
  clear t3
  go_wp2
  refine bodyPost_ret (by simp [*,results,Tryz.results32,go_sem];try rfl) rfl ?_
  exact ⟨ret_two E.out.1.symm E.out.2.symm,G.out⟩
 have E:=hideIt (slew_in EC.out HX.out (s:=s) (sl:=sl) (m:=m) (by unfold tests;rw [T1.out,T2.out,t3];rfl))
 have T3:=hideIt t3
 clear t3
 have hs:=inB_true T1.out
 have hs2:=inB_true T2.out
 obtain ⟨q,rfl⟩:∃q:Nat,s=(q:Int):=⟨s.toNat,by omega⟩
 rw [Int.toNat_natCast] at E
 go_wp2_with fail
 refine (sSlew_any k q sl m _ hl.out hd.out hw.out BP.out HX.out (by omega) hs2.1 hs2.2 T3.out).mono ?_
 rintro e wq ⟨rfl,g⟩
 rw [←E.out.1]
 have GE:=hideIt (G.out.trans g)
 clear g
 go_wp2
 refine bodyPost_ret (by simp [*,results,Tryz.results32,go_sem];try rfl) rfl ?_
 exact ⟨ret_two rfl E.out.2.symm,GE.out⟩

end Go.Proofs.YtlnpefiipdkafaaGreatDoor
