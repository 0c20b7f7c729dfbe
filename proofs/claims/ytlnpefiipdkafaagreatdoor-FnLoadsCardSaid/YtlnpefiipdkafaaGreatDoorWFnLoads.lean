/-
  The walk of FnLoads.
-/
import Derived.Test.YtlnpefiipdkafaaGreatDoorHQ
import Derived.Test.YtlnpefiipdkafaaGreatDoorLdL
import Derived.Test.YtlnpefiipdkafaaGreatDoorGW
import Derived.Test.YtlnpefiipdkafaaGreatDoorHR
import Derived.Test.YtlnpefiipdkafaaGreatDoorHM
import Derived.Test.YtlnpefiipdkafaaGreatDoorHK
import Derived.Test.YtlnpefiipdkafaaGreatDoorHL
namespace Go.Proofs.YtlnpefiipdkafaaGreatDoor
open Go.RowKit
set_option maxHeartbeats 32000000 in
set_option maxRecDepth 10000 in
theorem walk_FnLoads {v:Value} {zs:List Int} {w:World} (hx:RBytes w v zs) :
  Calls Tryz.prog 5 #[v] w fun e w'=>e=.returned (.bool true)∧Below w.heap.size w w':=by
 have HX:=hideIt hx
 clear hx
 go_enter Tryz.func5,Tryz.ntmps5
 go_wp2_with fail
 refine (big_any _ HX.out).mono ?_
 rintro e w1 ⟨rfl,rfl⟩
 cases hb:decide ((zs.length:Int)>4096)
 rotate_left
 ·go_wp2
  go_ret
  exact ⟨rfl,Below.refl _ _⟩
 clear hb
 go_wp2_with fail
 refine (drawNodeLoads_any HX.out).mono ?_
 rintro e u0 ⟨A0,n0,A1,n1,A2,n2,A3,n3,A4,n4,cs,xs,ns,ps,ws,z,rfl,br⟩
 clear HX
 go_upto_region 4 with fail
 refine at_c (fun u=>BlkR w u (.slice A0 cs.length n0) cs (.slice A1 xs.length n1) xs (.slice A2 ns.length n2) ns (.slice A3 ps.length n3) ps (.slice A4 ws.length n4) ws∧Blk u u0.heap.size 49 #[.slice A0 cs.length n0,.slice A1 xs.length n1,.slice A2 ns.length n2,.slice A3 ps.length n3,.slice A4 ws.length n4]) ⟨br.keep ((Grows.refl _).alloc _),Blk.new _ _ _⟩ (fun u1 hu=>?_)
 clear br
 obtain ⟨r1,q1⟩:=hu
 have BR:=hideIt r1
 have KB:=hideIt q1
 clear r1 q1
 have fB:=KB.out.frozen
 have lB:=KB.out.lt
 have b0:=KB.out.cell 0
 have b1:=KB.out.cell 1
 have b2:=KB.out.cell 2
 have b3:=KB.out.cell 3
 have b4:=KB.out.cell 4
 simp at b0 b1 b2 b3 b4
 go_wp2_with fail
 refine (iNodeLoads_any z _ BR.out.1 BR.out.2.1 BR.out.2.2.1 BR.out.2.2.2.1 BR.out.2.2.2.2.1).mono ?_
 rintro e u2 ⟨Al,cl,bl,rfl,ol,-,g⟩
 have OL:=hideIt ol.reads
 clear ol
 clear fB lB b0 b1 b2 b3 b4
 replace BR:=hideIt (BR.out.keep g)
 replace KB:=hideIt (KB.out.grows g)
 clear g
 have fB:=KB.out.frozen
 have lB:=KB.out.lt
 have b0:=KB.out.cell 0
 have b1:=KB.out.cell 1
 have b2:=KB.out.cell 2
 have b3:=KB.out.cell 3
 have b4:=KB.out.cell 4
 simp at b0 b1 b2 b3 b4
 go_wp2_with fail
 refine (sNodeLoads_any z _ BR.out.1 BR.out.2.1 BR.out.2.2.1).mono ?_
 rintro e u3 ⟨As,ca,ba,rfl,-,-,g⟩
 replace OL:=hideIt (OL.out.keep g.keeps)
 clear fB lB b0 b1 b2 b3 b4
 replace BR:=hideIt (BR.out.keep g)
 replace KB:=hideIt (KB.out.grows g)
 clear g
 have fB:=KB.out.frozen
 have lB:=KB.out.lt
 have b0:=KB.out.cell 0
 have b1:=KB.out.cell 1
 have b2:=KB.out.cell 2
 have b3:=KB.out.cell 3
 have b4:=KB.out.cell 4
 simp at b0 b1 b2 b3 b4
 have hcc:(codeV cs (⟨xs,ns,ps⟩:DesignD) ws z != codeV cs (⟨xs,ns,ps⟩:DesignD) ws z)=false:=by simp
 by_cases hc:codeV cs (⟨xs,ns,ps⟩:DesignD) ws z=0
 rotate_left
 ·have hc2:(codeV cs (⟨xs,ns,ps⟩:DesignD) ws z != 0)=true:=by simpa using hc
  have el:nodeLdV cs (⟨xs,ns,ps⟩:DesignD) ws z=[]:=by unfold nodeLdV;rw [if_neg hc]
  have EL:=hideIt el
  clear hc el
  rw [EL.out]
  simp only [List.length_nil]
  go_wp2
  go_ret
  exact ⟨rfl,BR.out.2.2.2.2.2.below⟩
 obtain ⟨BP,k,rfl,hk⟩:=codeV_0 hc
 obtain ⟨x,hx⟩:∃x,ws[k]?=some x:=⟨_,List.getElem?_eq_getElem hk⟩
 have hki:(k:Int)<(ws.length:Int):=by omega
 have LW:=hideIt (load_law BP hx)
 have DP:=hideIt BP.des
 have EC:=hideIt hc
 have E1:=hideIt (nodeLdV_at hc hx)
 have E2:=hideIt (nodeDlV_at hc hx)
 have E3:=hideIt (netLdV_at hc hx)
 have HW:=hideIt hx
 clear BP hc hx hcc
 rw [E1.out] at OL
 rw [E1.out,EC.out,LW.out.len]
 obtain ⟨LD,hld⟩:∃l,l=loadsL cs (⟨xs,ns,ps⟩:DesignD) x (k:Int):=⟨_,rfl⟩
 obtain ⟨DL,hdl⟩:∃l,l=delaysL cs (⟨xs,ns,ps⟩:DesignD) x (k:Int):=⟨_,rfl⟩
 obtain ⟨KP,hkp⟩:∃l,l=capsL cs (⟨xs,ns,ps⟩:DesignD) (k:Int):=⟨_,rfl⟩
 rw [←hld] at OL
 have LDL:Hid (LD.length=x.cap.length):=hideIt (by rw [hld];exact LW.out.len)
 have DLL:Hid (DL.length=x.cap.length):=hideIt (by rw [hdl];exact LW.out.dlen)
 have TOP:Hid (LD.getD 0 0=x.cap.sum+KP.sum):=hideIt (by rw [hld,hkp];exact LW.out.top)
 have LDU:Hid (∀i,1≤i→i<x.cap.length→LD.getD i 0≤LD.getD (x.parent.getD i 0).toNat 0):=hideIt (by rw [hld];exact LW.out.ld)
 have DLU:Hid (∀i,1≤i→i<x.cap.length→DL.getD (x.parent.getD i 0).toNat 0≤DL.getD i 0):=hideIt (by rw [hdl];exact LW.out.dl)
 have KSU:Hid (∀i,0≤(KP.take i).sum∧(KP.take i).sum≤40000):=hideIt (by rw [hkp];exact LW.out.ksum)
 have KPL:Hid (KP.length=(sinksL (⟨xs,ns,ps⟩:DesignD) (k:Int)).length):=hideIt (by rw [hkp];unfold capsL;simp)
 have CSI:Hid (∀(i:Nat) (s:Int),(sinksL (⟨xs,ns,ps⟩:DesignD) (k:Int))[i]?=some s→capV cs (⟨xs,ns,ps⟩:DesignD) s=KP.getD i 0):=hideIt (by rw [hkp];exact fun i s hs=>capV_sink DP.out hs)
 have ESV:Hid (sinksV cs (⟨xs,ns,ps⟩:DesignD) (k:Int)=sinksL (⟨xs,ns,ps⟩:DesignD) (k:Int)):=hideIt (by unfold sinksV;rw [if_pos (show desB _ _=true from pB_iff.2 DP.out)])
 have n1_:=LW.out.pos
 have n8_:=LW.out.few
 have HLD:=hideIt hld
 have HDL:=hideIt hdl
 clear hld hdl hkp
 go_wp2_with fail
 refine (iNodeDelays_any (k:Int) _ BR.out.1 BR.out.2.1 BR.out.2.2.1 BR.out.2.2.2.1 BR.out.2.2.2.2.1).mono ?_
 rintro e u4 ⟨Ad,cd,bd,rfl,od,-,g⟩
 rw [E2.out] at od
 rw [E2.out,EC.out,LW.out.dlen]
 rw [←HDL.out] at od
 have OD:=hideIt od.reads
 replace OL:=hideIt (OL.out.keep g.keeps)
 clear od
 clear fB lB b0 b1 b2 b3 b4
 replace BR:=hideIt (BR.out.keep g)
 replace KB:=hideIt (KB.out.grows g)
 clear g
 have fB:=KB.out.frozen
 have lB:=KB.out.lt
 have b0:=KB.out.cell 0
 have b1:=KB.out.cell 1
 have b2:=KB.out.cell 2
 have b3:=KB.out.cell 3
 have b4:=KB.out.cell 4
 simp at b0 b1 b2 b3 b4
 go_wp2_with fail
 refine (iNetLoad_any (k:Int) _ BR.out.1 BR.out.2.1 BR.out.2.2.1 BR.out.2.2.2.1 BR.out.2.2.2.2.1).mono ?_
 rintro e u5 ⟨rfl,g⟩
 rw [E3.out,EC.out,←HLD.out,TOP.out]
 replace OL:=hideIt (OL.out.keep g.keeps)
 replace OD:=hideIt (OD.out.keep g.keeps)
 clear fB lB b0 b1 b2 b3 b4
 replace BR:=hideIt (BR.out.keep g)
 replace KB:=hideIt (KB.out.grows g)
 clear g
 obtain ⟨T,hT⟩:∃T,T=x.cap.sum+KP.sum:=⟨_,rfl⟩
 rw [←hT]
 have HT:=hideIt hT
 clear hT
 obtain ⟨bw,ow,P0,P1,P2,P3,m0,m1,m2,m3,rfl,t0,t1,t2,t3,wr_⟩:=wires_at BR.out.2.2.1 HW.out
 have fB:=KB.out.frozen
 have lB:=KB.out.lt
 have b0:=KB.out.cell 0
 have b1:=KB.out.cell 1
 have b2:=KB.out.cell 2
 have b3:=KB.out.cell 3
 have b4:=KB.out.cell 4
 simp at b0 b1 b2 b3 b4
 go_upto_region 13 with fail
 refine at_c (fun u=>BlkR w u (.slice A0 cs.length n0) cs (.slice A1 xs.length n1) xs (.slice A2 ns.length n2) ns (.slice A3 ps.length n3) ps (.slice (some ⟨bw,ow,none⟩) ws.length n4) ws∧Blk u u0.heap.size 49 #[.slice A0 cs.length n0,.slice A1 xs.length n1,.slice A2 ns.length n2,.slice A3 ps.length n3,.slice (some ⟨bw,ow,none⟩) ws.length n4]∧Blk u u5.heap.size 56 #[.slice P0 x.parent.length m0,.slice P1 x.res.length m1,.slice P2 x.cap.length m2,.slice P3 x.sink.length m3]∧RWire u [.slice P0 x.parent.length m0,.slice P1 x.res.length m1,.slice P2 x.cap.length m2,.slice P3 x.sink.length m3] x∧RInts u (.slice Al LD.length cl) LD∧RInts u (.slice Ad DL.length cd) DL) ⟨BR.out.keep ((Grows.refl _).alloc _),KB.out.grows ((Grows.refl _).alloc _),Blk.new _ _ _,RWire.keep wr_ ((Grows.refl _).alloc _).keeps,OL.out.keep ((Grows.refl _).alloc _).keeps,OD.out.keep ((Grows.refl _).alloc _).keeps⟩ (fun u6 hu=>?_)
 clear t0 t1 t2 t3 wr_ fB lB b0 b1 b2 b3 b4
 obtain ⟨h1,h2,h3,h4,h5,h6⟩:=hu
 replace BR:=hideIt h1
 replace KB:=hideIt h2
 have KW:=hideIt h3
 have RW_:=hideIt h4
 replace OL:=hideIt h5
 replace OD:=hideIt h6
 clear h1 h2 h3 h4 h5 h6
 have fW:=KW.out.frozen
 have lW:=KW.out.lt
 have w0_:=KW.out.cell 0
 have w2_:=KW.out.cell 2
 simp at w0_ w2_
 go_wp2
 go_loopw [14,15] (fun sv iv wr=>∃i:Nat,iv=.int .i64 (i:Int)∧sv=.int .i64 (x.cap.take i).sum∧i≤x.cap.length∧Hid (Grows u6 wr)) (fun _ iv _=>x.cap.length - (intOf iv).toNat)
 case atStart=>exact ⟨0,rfl,rfl,Nat.zero_le _,hideIt (Grows.refl _)⟩
 case round =>
  clear fW lW w0_ w2_
  obtain ⟨i,rfl,rfl,hi,GQ⟩:=hrel
  have KQ:=hideIt (KW.out.grows GQ.out)
  have fW:=KQ.out.frozen
  have lW:=KQ.out.lt
  have w0_:=KQ.out.cell 0
  have w2_:=KQ.out.cell 2
  simp at w0_ w2_
  have cs1:=LW.out.csum i
  have cs2:=LW.out.csum (i+1)
  by_cases hlt:i<x.cap.length
  ·have hli:(i:Int)<(x.cap.length:Int):=by omega
   obtain ⟨y,hy⟩:∃y,x.cap[i]?=some y:=⟨_,List.getElem?_eq_getElem hlt⟩
   obtain ⟨bc,oc,rfl,cy⟩:=ints_at (RWire.keep RW_.out GQ.out.keeps).open_.2.2.1 hy
   have es:Hid ((x.cap.take (i+1)).sum=(x.cap.take i).sum+y):=hideIt (by rw [take_succ_sum hlt,List.getD_eq_getElem?_getD,hy];rfl)
   have ew:IntKind.i64.wrap ((x.cap.take i).sum+y)=(x.cap.take i).sum+y:=IntWalk.i64_in _ (by have:=es.out;omega)
   clear hy
   go_wp2
   go_roundw
   case rel=>exact ⟨i+1,by go_num,by rw [es.out],by omega,GQ⟩
   case measure=>simp [intOf];omega
  ·have hle:¬(i:Int)<(x.cap.length:Int):=by omega
   have hie:i=x.cap.length:=by omega
   subst hie
   rw [List.take_length] at cs1 ⊢
   obtain ⟨C,hC⟩:∃C,C=x.cap.sum:=⟨_,rfl⟩
   rw [←hC] at cs1 ⊢
   have HC:=hideIt hC
   have BR7:=hideIt (BR.out.keep GQ.out)
   have KB7:=hideIt (KB.out.grows GQ.out)
   have OL7:=hideIt (OL.out.keep GQ.out.keeps)
   have OD7:=hideIt (OD.out.keep GQ.out.keeps)
   have RW7:=hideIt (RWire.keep RW_.out GQ.out.keeps)
   clear cs2 hC BR KB OL OD RW_ KW
   obtain ⟨BR,KB,OL,OD,RW_,KW⟩:Hid (BlkR w wr (.slice A0 cs.length n0) cs (.slice A1 xs.length n1) xs (.slice A2 ns.length n2) ns (.slice A3 ps.length n3) ps (.slice (some ⟨bw,ow,none⟩) ws.length n4) ws)∧Hid (Blk wr u0.heap.size 49 #[.slice A0 cs.length n0,.slice A1 xs.length n1,.slice A2 ns.length n2,.slice A3 ps.length n3,.slice (some ⟨bw,ow,none⟩) ws.length n4])∧Hid (RInts wr (.slice Al LD.length cl) LD)∧Hid (RInts wr (.slice Ad DL.length cd) DL)∧Hid (RWire wr [.slice P0 x.parent.length m0,.slice P1 x.res.length m1,.slice P2 x.cap.length m2,.slice P3 x.sink.length m3] x)∧Hid (Blk wr u5.heap.size 56 #[.slice P0 x.parent.length m0,.slice P1 x.res.length m1,.slice P2 x.cap.length m2,.slice P3 x.sink.length m3]):=⟨BR7,KB7,OL7,OD7,RW7,KQ⟩
   clear BR7 KB7 OL7 OD7 RW7 KQ GQ
   have fB:=KB.out.frozen
   have lB:=KB.out.lt
   have b0:=KB.out.cell 0
   have b1:=KB.out.cell 1
   have b2:=KB.out.cell 2
   have b3:=KB.out.cell 3
   have b4:=KB.out.cell 4
   simp at b0 b1 b2 b3 b4
   go_wp2_with fail
   refine (sSinksOf_any (k:Int) _ BR.out.1 BR.out.2.1).mono ?_
   rintro e u7 ⟨Ak,ck,bk,rfl,ok,-,g⟩
   rw [ESV.out] at ok ⊢
   have OK:=hideIt ok.reads
   clear ok
   clear fB lB b0 b1 b2 b3 b4 fW lW w0_ w2_
   replace BR:=hideIt (BR.out.keep g)
   replace KB:=hideIt (KB.out.grows g)
   replace OL:=hideIt (OL.out.keep g.keeps)
   replace OD:=hideIt (OD.out.keep g.keeps)
   replace RW_:=hideIt (RWire.keep RW_.out g.keeps)
   replace KW:=hideIt (KW.out.grows g)
   clear g
   obtain ⟨S,hS⟩:∃S,S=sinksL (⟨xs,ns,ps⟩:DesignD) (k:Int):=⟨_,rfl⟩
   have CS2:Hid (∀(i:Nat) (s:Int),S[i]?=some s→capV cs (⟨xs,ns,ps⟩:DesignD) s=KP.getD i 0):=hideIt (by rw [hS];exact CSI.out)
   have KPS:Hid (KP.length=S.length):=hideIt (by rw [hS];exact KPL.out)
   have S78:S.length≤78:=by rw [hS];exact sinksL_len DP.out _
   rw [←hS] at OK ⊢
   clear hS CSI KPL
   go_wp2
   go_loopw [14,17] (fun sv iv wr=>∃i:Nat,iv=.int .i64 (i:Int)∧sv=.int .i64 (C+(KP.take i).sum)∧i≤S.length∧Hid (Grows u7 wr)) (fun _ iv _=>S.length - (intOf iv).toNat)
   case atStart=>exact ⟨0,rfl,by simp,Nat.zero_le _,hideIt (Grows.refl _)⟩
   case round =>
    obtain ⟨i,rfl,rfl,hi,GQ⟩:=hrel
    have ks1:=KSU.out i
    have ks2:=KSU.out (i+1)
    by_cases hlt:i<S.length
    ·have hli:(i:Int)<(S.length:Int):=by omega
     obtain ⟨s,hs⟩:∃s,S[i]?=some s:=⟨_,List.getElem?_eq_getElem hlt⟩
     obtain ⟨bs,os,rfl,csl⟩:=ints_at OK.out hs
     obtain ⟨pv,hpv⟩:∃pv,pv=KP.getD i 0:=⟨_,rfl⟩
     have es:Hid ((KP.take (i+1)).sum=(KP.take i).sum+pv):=hideIt (by rw [hpv];exact take_succ_sum (by rw [KPS.out];exact hlt))
     have ecv:Hid (capV cs (⟨xs,ns,ps⟩:DesignD) s=pv):=hideIt (by rw [hpv];exact CS2.out i s hs)
     have ew:IntKind.i64.wrap (C+(KP.take i).sum+pv)=C+(KP.take i).sum+pv:=IntWalk.i64_in _ (by have:=es.out;omega)
     clear hpv
     obtain ⟨y0,rfl⟩:∃y:World,y=wr:=⟨_,rfl⟩
     clear hs
     go_upto_region 22 with fail
     have LL:Hid (∀w',Grows y0 w'→w'.cell? ⟨u0.heap.size,0,none⟩=some (.slice A0 cs.length n0)∧w'.cell? ⟨u0.heap.size,1,none⟩=some (.slice A1 xs.length n1)∧w'.cell? ⟨u0.heap.size,2,none⟩=some (.slice A2 ns.length n2)∧w'.cell? ⟨u0.heap.size,3,none⟩=some (.slice A3 ps.length n3)∧w'.cell? ⟨bs,os+i,none⟩=some (.int .i64 s)):=hideIt (fun w' g=>by
      have h:=KB.out.grows (GQ.out.trans g)
      exact ⟨h.cell 0,h.cell 1,h.cell 2,h.cell 3,(GQ.out.trans g).keeps _ _ csl⟩)
     have gg:Grows y0 y0:=Grows.refl _
     clear csl
     refine wp_region_held_drew (S:=(fun w'=>Grows y0 w')) (by kernel_rfl) ?_ (fun hh0=>?_)
     ·(try dsimp only);(repeat with_reducible (first|exact gg|exact Grows.refl _|refine Grows.drew ?_|refine Grows.alloc ?_ _))
     refine regTk 0 hh0 ?_
     refine regTk 1 hh0 ?_
     refine regTake 2 (v:=.agg #[.slice A0 cs.length n0]) (fun w hw=>?_) hh0 ?_
     ·obtain ⟨k0,-⟩:=LL.out w hw
      go_simp
     try simp only [Act.put,List.setIfInBounds_toArray,List.set_cons_zero,List.set_cons_succ]
     refine regTk 3 hh0 ?_
     refine regTake 4 (v:=.agg #[.slice A1 xs.length n1,.slice A2 ns.length n2,.slice A3 ps.length n3]) (fun w hw=>?_) hh0 ?_
     ·obtain ⟨-,k1,k2,k3,-⟩:=LL.out w hw
      go_simp
     try simp only [Act.put,List.setIfInBounds_toArray,List.set_cons_zero,List.set_cons_succ]
     refine regTk 5 hh0 ?_
     refine regTk 6 hh0 ?_
     refine regTk 7 hh0 ?_
     refine regTake 8 (v:=.int .i64 s) (fun w hw=>?_) hh0 ?_
     ·obtain ⟨-,-,-,-,k5⟩:=LL.out w hw
      go_simp
     try simp only [Act.put,List.setIfInBounds_toArray,List.set_cons_zero,List.set_cons_succ]
     refine regCall 9 (fun K hK=>?_)
     go_simp
     have BRX:=BR.out.keep (GQ.out.trans ((Grows.refl y0).drew))
     refine (sPlaceCap_any s _ BRX.1 BRX.2.1).mono ?_
     rintro e y1 ⟨rfl,g⟩
     rw [ecv.out]
     have gg:Grows y0 y1:=gg.drew.trans g
     clear g BRX
     (try go_wp2_with fail)
     refine hK.out _ _ ?_ (fun hh1=>?_)
     ·(try dsimp only);(repeat with_reducible (first|exact gg|exact Grows.refl _|refine Grows.drew ?_|refine Grows.alloc ?_ _))
     clear hK K hh0
     try simp only [Act.put,List.setIfInBounds_toArray,List.set_cons_zero,List.set_cons_succ]
     refine regTk 10 hh1 ?_
     refine regTk 11 hh1 ?_
     refine wpAnyH_done (by kernel_rfl) ?_ _
     clear hh1 LL
     have GQ9:=hideIt (GQ.out.trans gg)
     clear gg GQ
     go_wp2
     go_roundw
     case rel=>exact ⟨i+1,by go_num,by rw [es.out,Int.add_assoc],by omega,GQ9⟩
     case measure=>simp [intOf];omega
    ·have hle:¬(i:Int)<(S.length:Int):=by omega
     have hie:i=S.length:=by omega
     subst hie
     have et:C+(KP.take S.length).sum=T:=by rw [HT.out,HC.out,←KPS.out,List.take_length]
     rw [et]
     clear et ks1 ks2
     have LDT:Hid (LD[0]?=some T):=hideIt (by
      have h0:0<LD.length:=by rw [LDL.out];omega
      rw [List.getElem?_eq_getElem h0]
      have h1:=TOP.out
      rw [List.getD_eq_getElem?_getD,List.getElem?_eq_getElem h0] at h1
      rw [HT.out,←h1]
      rfl)
     obtain ⟨bl_,ol_,e9,cl0⟩:=ints_at (OL.out.keep GQ.out.keeps) LDT.out
     subst e9
     replace KW:=hideIt (KW.out.grows GQ.out)
     replace RW_:=hideIt (RWire.keep RW_.out GQ.out.keeps)
     replace OL:=hideIt (OL.out.keep GQ.out.keeps)
     replace OD:=hideIt (OD.out.keep GQ.out.keeps)
     have GW:=hideIt (BR.out.2.2.2.2.2.trans GQ.out)
     have fW:=KW.out.frozen
     have lW:=KW.out.lt
     have w0_:=KW.out.cell 0
     have w2_:=KW.out.cell 2
     simp at w0_ w2_ cl0
     have hn0:0<x.cap.length:=by omega
     have hn0i:(0:Int)<(x.cap.length:Int):=by omega
     have hTT:(T != T)=false:=by simp
     have hLL:((x.cap.length:Int) != (x.cap.length:Int))=false:=by simp
     obtain ⟨yw,rfl⟩:∃y:World,y=wr:=⟨_,rfl⟩
     clear BR KB OK GQ
     go_wp2
     go_loopw [18] (fun iv wr=>∃i:Nat,iv=.int .i64 (i:Int)∧1≤i∧i≤x.cap.length∧Hid (Grows yw wr)) (fun iv _=>x.cap.length - (intOf iv).toNat)
     case atStart=>exact ⟨1,rfl,Nat.le_refl _,by omega,hideIt (Grows.refl _)⟩
     case round =>
      clear fW lW w0_ w2_ cl0
      obtain ⟨i,rfl,i1,hi,GQ⟩:=hrel
      have KQ:=hideIt (KW.out.grows GQ.out)
      have fW:=KQ.out.frozen
      have lW:=KQ.out.lt
      have w0_:=KQ.out.cell 0
      have w2_:=KQ.out.cell 2
      simp at w0_ w2_
      by_cases hlt:i<x.cap.length
      ·have hli:(i:Int)<(x.cap.length:Int):=by omega
       have pr:=LW.out.par i i1 hlt
       have ipl:i<x.parent.length:=by rw [LW.out.plen];exact hlt
       have ipi:(i:Int)<(x.parent.length:Int):=by omega
       obtain ⟨pn,hpn⟩:∃pn:Nat,x.parent[i]?=some (pn:Int)∧pn<i∧(x.parent.getD i 0).toNat=pn:=⟨(x.parent.getD i 0).toNat,by rw [getD_at ipl];congr 1;omega,pr.2,rfl⟩
       obtain ⟨hp,hpi,hpt⟩:=hpn
       have dl:=DLU.out i i1 hlt
       have ld:=LDU.out i i1 hlt
       rw [hpt] at dl ld
       have dlen:=DLL.out
       have llen:=LDL.out
       obtain ⟨v1,hv1⟩:∃v,DL[i]?=some v:=⟨_,List.getElem?_eq_getElem (by omega)⟩
       obtain ⟨v2,hv2⟩:∃v,DL[pn]?=some v:=⟨_,List.getElem?_eq_getElem (by omega)⟩
       obtain ⟨v3,hv3⟩:∃v,LD[i]?=some v:=⟨_,List.getElem?_eq_getElem (by omega)⟩
       obtain ⟨v4,hv4⟩:∃v,LD[pn]?=some v:=⟨_,List.getElem?_eq_getElem (by omega)⟩
       rw [getD_of hv2,getD_of hv1] at dl
       rw [getD_of hv3,getD_of hv4] at ld
       have f1:¬v1<v2:=by omega
       have f2:decide (v1<v2)=false:=decide_eq_false f1
       have f3:¬v4<v3:=by omega
       have f4:decide (v4<v3)=false:=decide_eq_false f3
       have pnn:pn<x.cap.length:=by omega
       have pni:(pn:Int)<(x.cap.length:Int):=by omega
       obtain ⟨bp,op,rfl,cp⟩:=ints_at (RWire.keep RW_.out GQ.out.keeps).open_.1 hp
       obtain ⟨bd,od,rfl,c1⟩:=ints_at (OD.out.keep GQ.out.keeps) hv1
       obtain ⟨bd',od',e5,c2⟩:=ints_at (OD.out.keep GQ.out.keeps) hv2
       obtain ⟨bl',ol',e6,c3⟩:=ints_at (OL.out.keep GQ.out.keeps) hv3
       obtain ⟨bl2,ol2,e7,c4⟩:=ints_at (OL.out.keep GQ.out.keeps) hv4
       injection e5 with e5
       injection e5 with e5 e5b
       injection e6 with e6
       injection e6 with e6 e6b
       injection e7 with e7
       injection e7 with e7 e7b
       subst e5 e5b e6 e6b e7 e7b
       clear hp hpt hv1 hv2 hv3 hv4 dlen llen dl ld pr
       go_wp2
       go_quiet (fail)
       go_wp2
       go_roundw
       case rel=>exact ⟨i+1,by go_num,by omega,by omega,by first|exact GQ|exact hideIt (GQ.out.drewN _)|exact hideIt (GQ.out.drew)⟩
       case measure=>simp [intOf];omega
      ·have hle:¬(i:Int)<(x.cap.length:Int):=by omega
       have GW9:=hideIt (GW.out.trans GQ.out)
       go_wp2
       go_ret
       exact ⟨rfl,GW9.out.below⟩
end Go.Proofs.YtlnpefiipdkafaaGreatDoor
