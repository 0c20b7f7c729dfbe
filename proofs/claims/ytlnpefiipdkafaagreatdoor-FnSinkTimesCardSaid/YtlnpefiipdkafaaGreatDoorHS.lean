/-
  The reference's delays of a wire's nodes.
-/
import Derived.Test.YtlnpefiipdkafaaGreatDoorHZ
import Derived.Test.YtlnpefiipdkafaaGreatDoorGT
namespace Go.Proofs.YtlnpefiipdkafaaGreatDoor
open Go.RowKit

set_option maxHeartbeats 16000000 in
set_option maxRecDepth 10000 in
theorem sDelays_any {lv a b c wv:Value} {cs:List CellD} {d:DesignD} {ws:List WireD} {x:WireD} (k:Nat) (w:World) (hl:RCells w lv cs) (hd:RDesign w [a,b,c] d) (hw:RWires w wv ws) (hb:BlkP cs d ws) (hx:ws[k]?=some x) :
  Calls Tryz.prog 99 #[.agg #[lv,a,b,c,wv],.int .i64 (k:Int)] w fun e w'=>∃(A:Option Addr) (c:Nat) (bs:List Nat),e=.returned (.slice A (delaysL cs d x (k:Int)).length c)∧OInts w' (.slice A (delaysL cs d x (k:Int)).length c) (delaysL cs d x (k:Int)) bs∧Own w.heap.size w'.heap.size bs∧Grows w w':=by
 have cl:=RList.len hl
 have wl:=RList.len hw
 obtain ⟨C,nc,rfl⟩:∃(D:Option Addr) (q:Nat),lv=.slice D cs.length q:=by obtain ⟨D,q,e,-⟩:=RList.form hl;exact ⟨D,q,e⟩
 obtain ⟨W,nw,rfl⟩:∃(D:Option Addr) (q:Nat),wv=.slice D ws.length q:=by obtain ⟨D,q,e,-⟩:=RList.form hw;exact ⟨D,q,e⟩
 have nl:=RList.len hd.parts.2.1
 obtain ⟨I,N,O,ni,nn,no,rfl,rfl,rfl⟩:=des_open hd
 have hT:=wireT_of (hb.wire k x hx)
 have n1:=hT.n1
 have n8:=hT.n8
 have ncap:=hT.cap
 have nres:=hT.res
 have nsink:=hT.sink
 have klt:k<ws.length:=(List.getElem?_eq_some_iff.1 hx).1
 have k1:(k:Int)<(ws.length:Int):=by omega
 have k2:(0:Int)≤(k:Int):=by omega
 obtain ⟨bw,ow,A0,A1,A2,A3,m0,m1,m2,m3,rfl,q0,q1,q2,q3,hxr⟩:=wires_at hw hx
 have lbw:=cell_lt q0
 simp at lbw
 have ncap1:x.cap.length≤x.parent.length:=by omega
 have ncap2:x.parent.length≤x.cap.length:=by omega
 have ns1:x.sink.length≤(sinksL d (k:Int)).length:=by omega
 have ns2:(sinksL d (k:Int)).length≤x.sink.length:=by omega
 have nr1:x.res.length≤x.parent.length:=by omega
 have nr2:x.parent.length≤x.res.length:=by omega
 have HT:=hideIt hT
 have DP:=hideIt hb.des
 have HX:=hideIt hx
 have mb:=sinksL_len hb.des (k:Int)
 have BP:=hideIt hb
 clear hT hb hx ncap nres nsink
 obtain ⟨i0,hi,hz0,hz1,hz2⟩:=info_parts info_i64'
 have g:Grows w w:=Grows.refl w
 have G:Hid (Grows w ((w.alloc (.cells #[.slice C cs.length nc,.slice I d.insts.length ni,.slice N d.nets.length nn,.slice O d.ports.length no,.slice (some ⟨bw,ow,none⟩) ws.length nw] 49)).alloc (.cells #[.slice A0 x.parent.length m0,.slice A1 x.res.length m1,.slice A2 x.cap.length m2,.slice A3 x.sink.length m3] 56))):=hideIt (((Grows.refl w).alloc _).alloc _)
 clear g
 have SB:Hid (Blk ((w.alloc (.cells #[.slice C cs.length nc,.slice I d.insts.length ni,.slice N d.nets.length nn,.slice O d.ports.length no,.slice (some ⟨bw,ow,none⟩) ws.length nw] 49)).alloc (.cells #[.slice A0 x.parent.length m0,.slice A1 x.res.length m1,.slice A2 x.cap.length m2,.slice A3 x.sink.length m3] 56)) (w.heap.size) 49 #[.slice C cs.length nc,.slice I d.insts.length ni,.slice N d.nets.length nn,.slice O d.ports.length no,.slice (some ⟨bw,ow,none⟩) ws.length nw]):=by
  have:=(Blk.new w 49 #[.slice C cs.length nc,.slice I d.insts.length ni,.slice N d.nets.length nn,.slice O d.ports.length no,.slice (some ⟨bw,ow,none⟩) ws.length nw]).grows ((Grows.refl (w.alloc (.cells #[.slice C cs.length nc,.slice I d.insts.length ni,.slice N d.nets.length nn,.slice O d.ports.length no,.slice (some ⟨bw,ow,none⟩) ws.length nw] 49))).alloc (.cells #[.slice A0 x.parent.length m0,.slice A1 x.res.length m1,.slice A2 x.cap.length m2,.slice A3 x.sink.length m3] 56))
  exact hideIt (by simpa using this)
 have VW:Hid (Blk ((w.alloc (.cells #[.slice C cs.length nc,.slice I d.insts.length ni,.slice N d.nets.length nn,.slice O d.ports.length no,.slice (some ⟨bw,ow,none⟩) ws.length nw] 49)).alloc (.cells #[.slice A0 x.parent.length m0,.slice A1 x.res.length m1,.slice A2 x.cap.length m2,.slice A3 x.sink.length m3] 56)) (w.heap.size+1) 56 #[.slice A0 x.parent.length m0,.slice A1 x.res.length m1,.slice A2 x.cap.length m2,.slice A3 x.sink.length m3]):=by
  have:=(Blk.new (w.alloc (.cells #[.slice C cs.length nc,.slice I d.insts.length ni,.slice N d.nets.length nn,.slice O d.ports.length no,.slice (some ⟨bw,ow,none⟩) ws.length nw] 49)) 56 #[.slice A0 x.parent.length m0,.slice A1 x.res.length m1,.slice A2 x.cap.length m2,.slice A3 x.sink.length m3]).grows (Grows.refl ((w.alloc (.cells #[.slice C cs.length nc,.slice I d.insts.length ni,.slice N d.nets.length nn,.slice O d.ports.length no,.slice (some ⟨bw,ow,none⟩) ws.length nw] 49)).alloc (.cells #[.slice A0 x.parent.length m0,.slice A1 x.res.length m1,.slice A2 x.cap.length m2,.slice A3 x.sink.length m3] 56)))
  exact hideIt (by simpa using this)
 replace hl:=hideIt (hl.keep G.out.keeps)
 replace hd:=hideIt (hd.keep G.out.keeps)
 replace hxr:=hideIt (hxr.keep G.out.keeps)
 replace hw:=hideIt (hw.keep G.out.keeps)
 go_enter Tryz.func99,Tryz.ntmps99
 go_wp2_with fail
 refine (sLoads_any k _ hl.out hd.out hw.out BP.out HX.out).mono ?_
 rintro e u1 ⟨A9,c9,bs9,rfl,o,ow,g⟩
 replace G:=hideIt (G.out.trans g)
 replace hl:=hideIt (hl.out.keep g.keeps)
 replace hd:=hideIt (hd.out.keep g.keeps)
 replace hxr:=hideIt (hxr.out.keep g.keeps)
 replace hw:=hideIt (hw.out.keep g.keeps)
 replace SB:=hideIt (SB.out.grows g)
 replace VW:=hideIt (VW.out.grows g)
 have HL9:=hideIt (loadsL_len (l:=cs) (d:=d) (n:=(k:Int)) (x:=x))
 obtain ⟨L,eL⟩:∃L:List Int,L=loadsL cs d x (k:Int):=⟨_,rfl⟩
 rw [←eL] at o ⊢
 have LB:=hideIt (fun q=>eL ▸ loadsL_bd DP.out HT.out q:∀q,0≤L.getD q 0∧L.getD q 0≤43000)
 have DB:=hideIt (fun q (i:Nat) (hi:i≤7)=>eL ▸ delay_bd DP.out HT.out hi q:∀q (i:Nat),i≤7→0≤(dlS x.parent x.res L i).getD q 0∧(dlS x.parent x.res L i).getD q 0≤301000000)
 have ll:L.length=x.cap.length:=by rw [eL];exact HL9.out
 have ll1:L.length≤x.parent.length:=by omega
 have ll2:x.parent.length≤L.length:=by omega
 have ED:=hideIt (show dlS x.parent x.res L (L.length - 1)=delaysL cs d x (k:Int) from by unfold delaysL;rw [ll,eL])
 have rl:=o.reads
 clear o ow HL9 ll eL
 clear g
 have kSB_0:u1.cell? ⟨w.heap.size,0,none⟩=some (.slice C cs.length nc):=SB.out.cell 0
 have kSB_1:u1.cell? ⟨w.heap.size,1,none⟩=some (.slice I d.insts.length ni):=SB.out.cell 1
 have kSB_2:u1.cell? ⟨w.heap.size,2,none⟩=some (.slice N d.nets.length nn):=SB.out.cell 2
 have kSB_3:u1.cell? ⟨w.heap.size,3,none⟩=some (.slice O d.ports.length no):=SB.out.cell 3
 have kSB_4:u1.cell? ⟨w.heap.size,4,none⟩=some (.slice (some ⟨bw,ow,none⟩) ws.length nw):=SB.out.cell 4
 have fSB:=SB.out.frozen
 have lSB:w.heap.size<u1.heap.size:=SB.out.lt
 have kVW_0:u1.cell? ⟨w.heap.size+1,0,none⟩=some (.slice A0 x.parent.length m0):=VW.out.cell 0
 have kVW_1:u1.cell? ⟨w.heap.size+1,1,none⟩=some (.slice A1 x.res.length m1):=VW.out.cell 1
 have kVW_2:u1.cell? ⟨w.heap.size+1,2,none⟩=some (.slice A2 x.cap.length m2):=VW.out.cell 2
 have kVW_3:u1.cell? ⟨w.heap.size+1,3,none⟩=some (.slice A3 x.sink.length m3):=VW.out.cell 3
 have fVW:=VW.out.frozen
 have lVW:w.heap.size+1<u1.heap.size:=VW.out.lt
 replace rl:=hideIt rl
 have own0:Hid ((u1.alloc (.cells #[.int .i64 0] 2)).ownsRow u1.heap.size 2 1 (.slice (some ⟨u1.heap.size,0,none⟩) 1 1) (dlS x.parent x.res L 0).length ((dlS x.parent x.res L 0).map (Value.int .i64))):=hideIt ⟨rfl,.inr ⟨_,1,#[.int .i64 0],rfl,Nat.le_refl _,Blk.new _ _ _,Nat.le_refl _,by unfold maxLen;omega,rfl,rfl⟩⟩
 go_wp2
 clear kSB_0 kSB_1 kSB_2 kSB_3 kSB_4 fSB lSB kVW_0 kVW_1 kVW_2 kVW_3 fVW lVW
 go_loopw [7,8] (fun s z wr=>∃(nv:Value) (j:Nat),nv=s∧1≤j∧j≤L.length∧z=.int .i64 (j:Int)∧Hid (wr.ownsRow u1.heap.size 2 1 nv (dlS x.parent x.res L (j - 1)).length ((dlS x.parent x.res L (j - 1)).map (Value.int .i64)))∧Grows u1 wr) (fun _ z _=>L.length - (intOf z).toNat)
 case atStart=>exact ⟨_,1,rfl,Nat.le_refl _,by omega,rfl,own0,(Grows.refl _).alloc _⟩
 case round =>
  obtain ⟨nv,j,rfl,hj1,hj,rfl,hown,hg⟩:=hrel
  by_cases hlt:j<L.length
  ·obtain ⟨pp,hpp⟩:∃pp:Nat,x.parent.getD j 0=(pp:Int):=⟨(x.parent.getD j 0).toNat,by have:=(HT.out.par j (by omega) (by omega)).1;omega⟩
   have pplt:pp<j:=by have:=(HT.out.par j (by omega) (by omega)).2;rw [hpp] at this;simpa using this
   have hpk:x.parent[j]?=some (pp:Int):=by rw [←hpp];exact getD_at (by omega)
   obtain ⟨rv,hrv⟩:∃rv,rv=x.res.getD j 0:=⟨_,rfl⟩
   have hrk:x.res[j]?=some rv:=by rw [hrv];exact getD_at (by omega)
   obtain ⟨lv,hlv⟩:∃lv,lv=L.getD j 0:=⟨_,rfl⟩
   have hlk:L[j]?=some lv:=by rw [hlv];exact getD_at (by omega)
   have rb:=HT.out.rb j
   have lb:=LB.out j
   rw [←hrv] at rb
   rw [←hlv] at lb
   have mb1:=Int.mul_nonneg rb.1 lb.1
   have mb2:=Int.mul_le_mul rb.2 lb.2 lb.1 (by omega:(0:Int)≤1000)
   obtain ⟨i,hij⟩:∃i,j=i+1:=⟨j - 1,by omega⟩
   have ES:Hid (dlS x.parent x.res L j=dlS x.parent x.res L (j - 1)++[(dlS x.parent x.res L (j - 1)).getD pp 0+rv * lv]):=hideIt (by
    subst hij
    show dlS x.parent x.res L i++[(dlS x.parent x.res L i).getD (x.parent.getD (i+1) 0).toNat 0+x.res.getD (i+1) 0 * L.getD (i+1) 0]=_
    rw [hpp,←hrv,←hlv,Int.toNat_natCast,Nat.add_sub_cancel])
   have DLN:=dlS_len x.parent x.res L (j - 1)
   have dvb:=DB.out pp (j - 1) (by omega)
   obtain ⟨A7,c7,bs7,rfl,oo,ow7⟩:=own_oints hown.out
   have gD:(dlS x.parent x.res L (j - 1))[pp]?=some ((dlS x.parent x.res L (j - 1)).getD pp 0):=getD_at (by omega)
   obtain ⟨bg,og,rfl,qg⟩:=ints_at oo.reads gD
   obtain ⟨bk,ok,rfl,qk⟩:=ints_at hxr.out.open_.1 hpk
   obtain ⟨br,or_,rfl,qr⟩:=ints_at hxr.out.open_.2.1 hrk
   obtain ⟨bl,ol,rfl,ql⟩:=ints_at rl.out hlk
   have nlt:Hid (∀q,(Value.slice (some ⟨bg,og,none⟩) (dlS x.parent x.res L (j - 1)).length c7).ownBlock=some q→u1.heap.size≤q∧q<wr.heap.size):=hideIt hown.out.lt
   have OWS:=hideIt (fun (v:Int) (e:v=(dlS x.parent x.res L (j - 1)).getD pp 0+rv * lv) (w5:World) (v5:Value) (h:w5.ownsRow u1.heap.size 2 1 v5 ((dlS x.parent x.res L (j - 1)).length+1) ((dlS x.parent x.res L (j - 1)).map (Value.int .i64)++[.int .i64 v]))=>(by
    subst e
    rw [ES.out,List.length_append,List.map_append]
    exact h:w5.ownsRow u1.heap.size 2 1 v5 (dlS x.parent x.res L j).length ((dlS x.parent x.res L j).map (Value.int .i64))))
   obtain ⟨D,eD⟩:∃D:List Int,D=dlS x.parent x.res L (j - 1):=⟨_,rfl⟩
   rw [←eD] at hown qg gD DLN dvb nlt OWS ⊢
   obtain ⟨dv,edv⟩:∃dv,dv=D.getD pp 0:=⟨_,rfl⟩
   rw [←edv] at qg dvb OWS
   have wr1:IntKind.i64.wrap (rv * lv)=rv * lv:=Go.IntWalk.i64_in _ (by omega)
   have wr2:IntKind.i64.wrap (dv+rv * lv)=dv+rv * lv:=Go.IntWalk.i64_in _ (by omega)
   have own1:=hideIt (hown.out.alloc (.cells #[.int .i64 (dv+rv * lv)] 2))
   have l1:(j:Int)<(L.length:Int):=by omega
   have l2:(0:Int)≤(j:Int):=by omega
   have l3:(j:Int)<(x.parent.length:Int):=by omega
   have l4:(j:Int)<(x.res.length:Int):=by omega
   have l5:(pp:Int)<(D.length:Int):=by omega
   have l6:(0:Int)≤(pp:Int):=by omega
   have dl8:D.length≤8:=by omega
   have HJ:=hideIt (And.intro hj1 hlt)
   have KB:=hideIt hg.size
   clear gD hpk hpp hrk hlk hrv hlv rb lb mb1 mb2 hij DLN dvb eD edv oo ow7 hown
   have K0:∀w',Grows u1 w'→w'.cell? ⟨w.heap.size+1,0,none⟩=some (.slice (some ⟨bk,ok,none⟩) x.parent.length m0)∧w'.cell? ⟨w.heap.size+1,1,none⟩=some (.slice (some ⟨br,or_,none⟩) x.res.length m1)∧w'.cell? ⟨bk,ok+j,none⟩=some (.int .i64 (pp:Int))∧w'.cell? ⟨br,or_+j,none⟩=some (.int .i64 rv)∧w'.cell? ⟨bl,ol+j,none⟩=some (.int .i64 lv)∧Grows u1 w':=fun w' G=>⟨(G.cells.1 _ _ VW.out.lt).trans (VW.out.cell 0),(G.cells.1 _ _ VW.out.lt).trans (VW.out.cell 1),G.keeps _ _ qk,G.keeps _ _ qr,G.keeps _ _ ql,G⟩
   have HK:=hideIt K0
   clear K0
   have gg:Grows u1 wr:=hg
   clear hg
   go_wp2
   refine wp_region_held_drew (S:=(fun w'=>w'.cell? ⟨w.heap.size+1,0,none⟩=some (.slice (some ⟨bk,ok,none⟩) x.parent.length m0)∧w'.cell? ⟨w.heap.size+1,1,none⟩=some (.slice (some ⟨br,or_,none⟩) x.res.length m1)∧w'.cell? ⟨bk,ok+j,none⟩=some (.int .i64 (pp:Int))∧w'.cell? ⟨br,or_+j,none⟩=some (.int .i64 rv)∧w'.cell? ⟨bl,ol+j,none⟩=some (.int .i64 lv)∧Grows u1 w')) (by kernel_rfl) ?_ (fun hh0=>?_)
   ·(try dsimp only);exact HK.out _ gk
   refine regTk 0 hh0 ?_
   refine regTk 1 hh0 ?_
   refine regTk 2 hh0 ?_
   refine regTk 3 hh0 ?_
   refine regTk 4 hh0 ?_
   refine regTk 5 hh0 ?_
   refine regTk 6 hh0 ?_
   refine regTk 7 hh0 ?_
   refine regTk 9 hh0 ?_
   refine regTk 10 hh0 ?_
   refine regTk 11 hh0 ?_
   refine regTk 12 hh0 ?_
   refine regTk 13 hh0 ?_
   refine regTk 14 hh0 ?_
   refine regTk 15 hh0 ?_
   refine regTk 16 hh0 ?_
   refine regTk 17 hh0 ?_
   refine regTk 18 hh0 ?_
   refine regCall 8 (fun K hK=>?_)
   go_simp
   (try go_wp2_with fail)
   refine hK.out _ _ ?_ (fun hh1=>?_)
   ·(try dsimp only);exact HK.out _ gk
   clear hK K hh0
   try simp only [Act.put,List.setIfInBounds_toArray,List.set_cons_zero,List.set_cons_succ]
   refine regTk 19 hh1 ?_
   refine regCall 20 (fun K hK=>?_)
   go_simp
   (try go_wp2_with fail)
   refine hK.out _ _ ?_ (fun hh2=>?_)
   ·(try dsimp only);exact HK.out _ gk
   clear hK K hh1
   try simp only [Act.put,List.setIfInBounds_toArray,List.set_cons_zero,List.set_cons_succ]
   refine regCall 21 (fun K hK=>?_)
   refine wp_append_own _ _ _ 39 rfl u1.heap.size 2 i0 (.int .i64 0) 1 8 Tryz.underlying39 hi hz0 hz1 hz2 rfl (by decide) (.slice (some ⟨bg,og,none⟩) D.length c7) D.length (D.map (Value.int .i64)) (by rfl) (by have h:=own1.out;exact h) ⟨wr.heap.size,0,none⟩ 1 1 [.int .i64 (dv+rv * lv)] (by rfl) rfl ?c2 ?c3 ?c4 ?c5 ?c6 ?_
   case c2 =>
    intro j u hj
    match j,hj with
    | 0,hj=>simp at hj;subst hj;simp [Addr.add]
   case c3=>intro u hu;simp at hu;subst hu;rfl
   case c4=>unfold maxLen;omega
   case c5=>omega
   case c6=>have:=KB.out;simp;omega
   intro v' w4 hown3 hgrow hnil
   have gg:Grows u1 w4:=Grows.grown gk hgrow (fun q e=>by have h1:=(nlt.out q e).1;simpa using h1)
   refine hK.out _ _ ?_ (fun hh3=>?_)
   ·(try dsimp only);exact HK.out _ gk
   clear hK K hh2
   try simp only [Act.put,List.setIfInBounds_toArray,List.set_cons_zero,List.set_cons_succ]
   refine regTk 22 hh3 ?_
   refine wpAnyH_done (by kernel_rfl) ?_ _
   have G4:=hideIt gg
   have OW:=hideIt (OWS.out _ rfl _ _ hown3)
   clear hown3 hgrow hnil own1 OWS HK hh3
   go_wp2
   go_roundw
   case rel=>exact ⟨_,j+1,rfl,by omega,by have:=HJ.out.2;omega,by go_num,by rw [Nat.add_sub_cancel];exact OW,G4.out⟩
   case measure=>have:=HJ.out.2;simp [intOf];omega
  ·obtain rfl:j=L.length:=by omega
   rw [ED.out] at hown
   obtain ⟨A7,c7,bs7,rfl,oo,ow7⟩:=own_oints hown.out
   have GE:=hideIt (G.out.trans hg)
   have OE:=hideIt oo
   have WE:=hideIt (ow7.mono G.out.size (Nat.le_refl _))
   clear oo ow7 hown
   go_wp2
   go_ret
   exact ⟨A7,c7,bs7,rfl,OE.out,WE.out,GE.out⟩

end Go.Proofs.YtlnpefiipdkafaaGreatDoor
/-
  The reference's NodeDelays.
-/
namespace Go.Proofs.YtlnpefiipdkafaaGreatDoor
open Go.RowKit


end Go.Proofs.YtlnpefiipdkafaaGreatDoor
