/-
  The walk of FnSinkTimes.
-/
import Derived.Test.YtlnpefiipdkafaaGreatDoorL7F
import Derived.Test.YtlnpefiipdkafaaGreatDoorHT
import Derived.Test.YtlnpefiipdkafaaGreatDoorJA
import Derived.Test.YtlnpefiipdkafaaGreatDoorJB
import Derived.Test.YtlnpefiipdkafaaGreatDoorHR
import Derived.Test.YtlnpefiipdkafaaGreatDoorHL
namespace Go.Proofs.YtlnpefiipdkafaaGreatDoor
open Go.RowKit
set_option maxHeartbeats 32000000 in
set_option maxRecDepth 10000 in
theorem walk_FnSinkTimes {v:Value} {zs:List Int} {w:World} (hx:RBytes w v zs) :
  Calls Tryz.prog 6 #[v] w fun e w'=>e=.returned (.bool true)∧Below w.heap.size w w':=by
 have HX:=hideIt hx
 clear hx
 go_enter Tryz.func6,Tryz.ntmps6
 go_wp2_with fail
 refine (big_any _ HX.out).mono ?_
 rintro e w1 ⟨rfl,rfl⟩
 cases hb:decide ((zs.length:Int)>4096)
 rotate_left
 ·go_wp2
  go_ret
  exact ⟨rfl,Below.refl _ _⟩
 clear hb
 go_wp2_with fail
 refine (drawSinkSlew_any HX.out).mono ?_
 rintro e u0 ⟨A0,n0,A1,n1,A2,n2,A3,n3,A4,n4,cs,xs,ns,ps,ws,z1,z2,z3,m,rfl,br⟩
 clear HX
 go_upto_region 4 with fail
 refine at_c (fun u=>BlkR w u (.slice A0 cs.length n0) cs (.slice A1 xs.length n1) xs (.slice A2 ns.length n2) ns (.slice A3 ps.length n3) ps (.slice A4 ws.length n4) ws∧Blk u u0.heap.size 49 #[.slice A0 cs.length n0,.slice A1 xs.length n1,.slice A2 ns.length n2,.slice A3 ps.length n3,.slice A4 ws.length n4]) ⟨br.keep ((Grows.refl _).alloc _),Blk.new _ _ _⟩ (fun u1 hu=>?_)
 clear br
 obtain ⟨r1,q1⟩:=hu
 have BR:=hideIt r1
 have KB:=hideIt q1
 clear r1 q1
 have fB:=KB.out.frozen
 have lB:=KB.out.lt
 have b0:=KB.out.cell 0
 have b1:=KB.out.cell 1
 have b2:=KB.out.cell 2
 have b3:=KB.out.cell 3
 have b4:=KB.out.cell 4
 simp at b0 b1 b2 b3 b4
 go_wp2_with fail
 refine (iSinkSlew_any z1 z2 z3 m _ BR.out.1 BR.out.2.1 BR.out.2.2.1 BR.out.2.2.2.1 BR.out.2.2.2.2.1).mono ?_
 rintro e u2 ⟨rfl,g⟩
 clear fB lB b0 b1 b2 b3 b4
 replace BR:=hideIt (BR.out.keep g)
 replace KB:=hideIt (KB.out.grows g)
 clear g
 have fB:=KB.out.frozen
 have lB:=KB.out.lt
 have b0:=KB.out.cell 0
 have b1:=KB.out.cell 1
 have b2:=KB.out.cell 2
 have b3:=KB.out.cell 3
 have b4:=KB.out.cell 4
 simp at b0 b1 b2 b3 b4
 go_wp2_with fail
 refine (sSinkSlew_any z1 z2 z3 m _ BR.out.1 BR.out.2.1 BR.out.2.2.1).mono ?_
 rintro e u3 ⟨rfl,g⟩
 clear fB lB b0 b1 b2 b3 b4
 replace BR:=hideIt (BR.out.keep g)
 replace KB:=hideIt (KB.out.grows g)
 clear g
 have fB:=KB.out.frozen
 have lB:=KB.out.lt
 have b0:=KB.out.cell 0
 have b1:=KB.out.cell 1
 have b2:=KB.out.cell 2
 have b3:=KB.out.cell 3
 have b4:=KB.out.cell 4
 simp at b0 b1 b2 b3 b4
 have hcc:(slewCode cs (⟨xs,ns,ps⟩:DesignD) ws z1 z2 z3 m != slewCode cs (⟨xs,ns,ps⟩:DesignD) ws z1 z2 z3 m)=false:=by simp
 by_cases hc:slewCode cs (⟨xs,ns,ps⟩:DesignD) ws z1 z2 z3 m=0
 rotate_left
 ·have hc2:(slewCode cs (⟨xs,ns,ps⟩:DesignD) ws z1 z2 z3 m != 0)=true:=by simpa using hc
  have EL:=hideIt (slew_zero hc)
  clear hc
  rw [EL.out]
  go_wp2
  go_ret
  exact ⟨rfl,BR.out.2.2.2.2.2.below⟩
 obtain ⟨k,x,j,rfl,hcv,hx,rfl,hj,⟨sl0,sl1⟩,hm,hv⟩:=slew_ok hc
 have hk:k<ws.length:=(List.getElem?_eq_some_iff.1 hx).1
 have hki:(k:Int)<(ws.length:Int):=by omega
 have BP:=hideIt (codeV_0 hcv).1
 have HW:=hideIt hx
 have HM:=hideIt hm
 have EC:=hideIt hcv
 have WK:=hideIt (wireT_of (BP.out.wire k x hx))
 have s78_:x.sink.length≤78:=by rw [WK.out.sink];exact sinksL_len BP.out.des _
 have DB:Hid (∀i,0≤dlyV cs (⟨xs,ns,ps⟩:DesignD) x (k:Int) i∧dlyV cs (⟨xs,ns,ps⟩:DesignD) x (k:Int) i≤301000000):=hideIt (fun i=>dlyV_bd BP.out.des WK.out i)
 obtain ⟨D,hD⟩:∃D,D=dlyV cs (⟨xs,ns,ps⟩:DesignD) x (k:Int) j:=⟨_,rfl⟩
 obtain ⟨r,hr⟩:∃r,r=slewR z3 D m:=⟨_,rfl⟩
 have LAW:Hid (SlewLaw z3 D m r):=hideIt (by rw [hr];exact slewR_law ⟨sl0,sl1⟩ (by rw [hD];exact DB.out j) (isM_01 hm))
 have DB2:0≤D∧D≤301000000:=by rw [hD];exact DB.out j
 rw [hv,hc,←hD,←hr]
 have HD:=hideIt hD
 have E2:=hideIt (nodeDlV_at hcv hx)
 clear hc hcv hx hm hv hcc hD hr
 go_wp2_with fail
 refine (iSinkDelays_at k m _ BR.out.1 BR.out.2.1 BR.out.2.2.1 BR.out.2.2.2.1 BR.out.2.2.2.2.1 EC.out HW.out HM.out).mono ?_
 rintro e u4 ⟨Al,cl,bl,rfl,ol,g⟩
 obtain ⟨SD,hsd⟩:∃l,l=(exL cs (⟨xs,ns,ps⟩:DesignD) x (k:Int)).map fun a=>rdv a 1000 m:=⟨_,rfl⟩
 have el:(exL cs (⟨xs,ns,ps⟩:DesignD) x (k:Int)).length=x.sink.length:=exP_len (Nat.le_refl _)
 rw [←hsd,el] at ol
 rw [el]
 have SAT:Hid (∀i,i<x.sink.length→SD[i]?=some (rdv (dlyV cs (⟨xs,ns,ps⟩:DesignD) x (k:Int) i) 1000 m)):=hideIt (fun i hi=>by rw [hsd,List.getElem?_map,exL_at hi];rfl)
 have SDL:Hid (SD.length=x.sink.length):=hideIt (by rw [hsd,List.length_map,el])
 have OL:Hid (RInts u4 (.slice Al SD.length cl) SD):=hideIt (by rw [SDL.out];exact ol.reads)
 clear ol el hsd
 clear fB lB b0 b1 b2 b3 b4
 replace BR:=hideIt (BR.out.keep g)
 replace KB:=hideIt (KB.out.grows g)
 clear g
 have fB:=KB.out.frozen
 have lB:=KB.out.lt
 have b0:=KB.out.cell 0
 have b1:=KB.out.cell 1
 have b2:=KB.out.cell 2
 have b3:=KB.out.cell 3
 have b4:=KB.out.cell 4
 simp at b0 b1 b2 b3 b4
 go_wp2_with fail
 refine (iNodeDelays_any (k:Int) _ BR.out.1 BR.out.2.1 BR.out.2.2.1 BR.out.2.2.2.1 BR.out.2.2.2.2.1).mono ?_
 rintro e u5 ⟨Ad,cd,bd,rfl,od,-,g⟩
 obtain ⟨DL,hdl⟩:∃l,l=delaysL cs (⟨xs,ns,ps⟩:DesignD) x (k:Int):=⟨_,rfl⟩
 have dlen:DL.length=x.cap.length:=by rw [hdl];exact delaysL_len (by have h1:=WK.out.n1;have h2:=WK.out.cap;omega)
 rw [E2.out,←hdl] at od
 rw [E2.out,EC.out,←hdl,dlen]
 have OD:=hideIt od.reads
 have DLL:=hideIt dlen
 have HDL:=hideIt hdl
 replace OL:=hideIt (OL.out.keep g.keeps)
 clear od dlen hdl
 clear fB lB b0 b1 b2 b3 b4
 replace BR:=hideIt (BR.out.keep g)
 replace KB:=hideIt (KB.out.grows g)
 clear g
 obtain ⟨bw,ow,P0,P1,P2,P3,m0,m1,m2,m3,rfl,t0,t1,t2,t3,wr_⟩:=wires_at BR.out.2.2.1 HW.out
 have RW_:=hideIt wr_
 have T2:=hideIt t2
 have T3:=hideIt t3
 clear wr_
 have fB:=KB.out.frozen
 have lB:=KB.out.lt
 have b0:=KB.out.cell 0
 have b1:=KB.out.cell 1
 have b2:=KB.out.cell 2
 have b3:=KB.out.cell 3
 have b4:=KB.out.cell 4
 simp at b0 b1 b2 b3 b4
 have hLL:((x.sink.length:Int) != (x.sink.length:Int))=false:=by simp
 have hCC:((x.cap.length:Int) != (x.cap.length:Int))=false:=by simp
 have hji:(j:Int)<(x.sink.length:Int):=by omega
 go_wp2
 go_loopw [16,17,18] (fun iv s17 s18 wr=>∃i:Nat,iv=.int .i64 (i:Int)∧i≤x.sink.length∧Hid (Grows u5 wr)) (fun iv _ _ _=>x.sink.length - (intOf iv).toNat)
 case atStart=>exact ⟨0,rfl,Nat.zero_le _,hideIt (Grows.refl _)⟩
 case round =>
  clear t0 t1 t2 t3 fB lB b0 b1 b2 b3 b4
  obtain ⟨i,rfl,hi,GQ⟩:=hrel
  have KQ:=hideIt (KB.out.grows GQ.out)
  have t2:=GQ.out.keeps _ _ (show u5.cell? ⟨bw,ow+k * 4+2,none⟩=some (.slice P2 x.cap.length m2) from T2.out)
  have t3:=GQ.out.keeps _ _ (show u5.cell? ⟨bw,ow+k * 4+3,none⟩=some (.slice P3 x.sink.length m3) from T3.out)
  have fB:=KQ.out.frozen
  have lB:=KQ.out.lt
  have b0:=KQ.out.cell 0
  have b1:=KQ.out.cell 1
  have b2:=KQ.out.cell 2
  have b3:=KQ.out.cell 3
  have b4:=KQ.out.cell 4
  simp at b0 b1 b2 b3 b4
  by_cases hlt:i<x.sink.length
  ·have hli:(i:Int)<(x.sink.length:Int):=by omega
   have sb:=WK.out.sb i hlt
   obtain ⟨pn,hpn⟩:∃pn:Nat,x.sink[i]?=some (pn:Int)∧pn<x.cap.length:=⟨(x.sink.getD i 0).toNat,by rw [getD_at hlt];congr 1;omega,by rw [WK.out.cap];exact sb.2⟩
   obtain ⟨hp,pnn⟩:=hpn
   have pni:(pn:Int)<(x.cap.length:Int):=by omega
   obtain ⟨dv,hdv⟩:∃dv,dv=dlyV cs (⟨xs,ns,ps⟩:DesignD) x (k:Int) i:=⟨_,rfl⟩
   have dvb:=DB.out i
   rw [←hdv] at dvb
   have h1:DL[pn]?=some dv:=by
    rw [getD_at (by rw [DLL.out];exact pnn),hdv,dly_node hp,HDL.out,Int.toNat_natCast]
   have h2:=SAT.out i hlt
   rw [←hdv] at h2
   obtain ⟨bp,op,rfl,cp⟩:=ints_at (RWire.keep RW_.out GQ.out.keeps).open_.2.2.2 hp
   obtain ⟨bd,od,rfl,c1⟩:=ints_at (OD.out.keep GQ.out.keeps) h1
   obtain ⟨bl,ol,rfl,c2⟩:=ints_at (OL.out.keep GQ.out.keeps) h2
   have RV:=hideIt (round_in dvb HM.out)
   have hrr:(rdv dv 1000 m != rdv dv 1000 m)=false:=by simp
   have sl_:i<x.sink.length:=hlt
   clear hp h1 h2 hdv sb
   go_wp2_with fail
   refine (iRoundDiv_any dv 1000 m _).mono ?_
   rintro e u7 ⟨rfl,n7,rfl⟩
   rw [RV.out]
   go_wp2
   go_roundw
   case rel=>exact ⟨i+1,by go_num,by omega,by first|exact hideIt (GQ.out.drewN _)|exact hideIt (GQ.out.drewN _).drew|exact GQ⟩
   case measure=>simp [intOf];omega
  ·have hle:¬(i:Int)<(x.sink.length:Int):=by omega
   have sb:=WK.out.sb j hj
   obtain ⟨pn,hpn⟩:∃pn:Nat,x.sink[j]?=some (pn:Int)∧pn<x.cap.length:=⟨(x.sink.getD j 0).toNat,by rw [getD_at hj];congr 1;omega,by rw [WK.out.cap];exact sb.2⟩
   obtain ⟨hp,pnn⟩:=hpn
   have pni:(pn:Int)<(x.cap.length:Int):=by omega
   have h1:DL[pn]?=some D:=by
    rw [getD_at (by rw [DLL.out];exact pnn),HD.out,dly_node hp,HDL.out,Int.toNat_natCast]
   obtain ⟨bp,op,rfl,cp⟩:=ints_at (RWire.keep RW_.out GQ.out.keeps).open_.2.2.2 hp
   obtain ⟨bd,od,rfl,c1⟩:=ints_at (OD.out.keep GQ.out.keeps) h1
   have G9:=hideIt (BR.out.2.2.2.2.2.trans GQ.out)
   have qs:0≤z3 * z3∧z3 * z3≤1000000000000:=⟨Int.mul_nonneg sl0 sl0,by have:=sq_le sl0 sl1;omega⟩
   have qd:0≤D * D∧D * D≤90601000000000000:=⟨Int.mul_nonneg DB2.1 DB2.1,by have:=sq_le DB2.1 DB2.2;omega⟩
   have e1:1000000 * z3 * z3=1000000 * (z3 * z3):=by rw [Int.mul_assoc]
   have e2:4 * D * D=4 * (D * D):=by rw [Int.mul_assoc]
   have w1_:IntKind.i64.wrap (1000000 * z3)=1000000 * z3:=IntWalk.i64_in _ (by omega)
   have w2_:IntKind.i64.wrap (1000000 * z3 * z3)=1000000 * z3 * z3:=IntWalk.i64_in _ (by omega)
   have w3_:IntKind.i64.wrap (4 * D)=4 * D:=IntWalk.i64_in _ (by omega)
   have w4_:IntKind.i64.wrap (4 * D * D)=4 * D * D:=IntWalk.i64_in _ (by omega)
   obtain ⟨E,hE⟩:∃E,E=1000000 * z3 * z3+4 * D * D:=⟨_,rfl⟩
   have w5_:IntKind.i64.wrap (1000000 * z3 * z3+4 * D * D)=E:=by rw [hE];exact IntWalk.i64_in _ (by omega)
   have LE:SlewLaw z3 D m r:=LAW.out
   have hee:exS z3 D=E:=by rw [hE];rfl
   have hge:decide (r≥z3)=true:=decide_eq_true LE.ge
   obtain ⟨rb0,rb1⟩:=LE.bd
   have r0:0≤r * r∧r * r≤1440004800004:=⟨Int.mul_nonneg rb0 rb0,by have:=sq_le rb0 (show r≤1200002 by omega);omega⟩
   have v1_:IntKind.i64.wrap (1000000 * r)=1000000 * r:=IntWalk.i64_in _ (by omega)
   have v2_:IntKind.i64.wrap (1000000 * r * r)=1000000 * r * r:=IntWalk.i64_in _ (by rw [Int.mul_assoc];omega)
   rcases isM_01 HM.out with em|em
   ·obtain ⟨a1,a2⟩:=LE.early em
    rw [hee] at a1 a2
    have d1:decide (1000000 * r * r≤E)=true:=decide_eq_true a1
    have d2:decide (1000000 * (r+1) * (r+1)>E)=true:=decide_eq_true a2
    have r2:0≤(r+1) * (r+1)∧(r+1) * (r+1)≤1440004800004:=⟨Int.mul_nonneg (by omega) (by omega),by have:=sq_le (show 0≤r+1 by omega) (show r+1≤1200002 by omega);omega⟩
    have v3_:IntKind.i64.wrap (r+1)=r+1:=IntWalk.i64_in _ (by omega)
    have v4_:IntKind.i64.wrap (1000000 * (r+1))=1000000 * (r+1):=IntWalk.i64_in _ (by omega)
    have v5_:IntKind.i64.wrap (1000000 * (r+1) * (r+1))=1000000 * (r+1) * (r+1):=IntWalk.i64_in _ (by rw [Int.mul_assoc];omega)
    clear hp h1 sb qs qd e1 e2 hE LE hee a1 a2 r0 r2 LAW
    subst em
    go_wp2
    go_quiet (fail)
    go_wp2
    go_ret
    exact ⟨rfl,by first|exact G9.out.below|exact (G9.out.drewN _).below|exact (G9.out.drew).below⟩
   ·obtain ⟨a1,a2⟩:=LE.late em
    rw [hee] at a1 a2
    have d1:decide (1000000 * r * r≥E)=true:=decide_eq_true a1
    have em0:(m==0)=false:=by rw [em];rfl
    by_cases hz:r=0
    ·have hz2:(r==0)=true:=by simp [hz]
     clear hp h1 sb qs qd e1 e2 hE LE hee a1 a2 r0 LAW hz
     go_wp2
     go_quiet (fail)
     go_wp2
     go_ret
     exact ⟨rfl,by first|exact G9.out.below|exact (G9.out.drewN _).below|exact (G9.out.drew).below⟩
    ·have hz2:(r==0)=false:=by simp [hz]
     have d2:decide (1000000 * (r - 1) * (r - 1)<E)=true:=decide_eq_true (a2.resolve_left hz)
     have r2:0≤(r - 1) * (r - 1)∧(r - 1) * (r - 1)≤1440004800004:=⟨Int.mul_nonneg (by omega) (by omega),by have:=sq_le (show 0≤r - 1 by omega) (show r - 1≤1200002 by omega);omega⟩
     have v3_:IntKind.i64.wrap (r - 1)=r - 1:=IntWalk.i64_in _ (by omega)
     have v4_:IntKind.i64.wrap (1000000 * (r - 1))=1000000 * (r - 1):=IntWalk.i64_in _ (by omega)
     have v5_:IntKind.i64.wrap (1000000 * (r - 1) * (r - 1))=1000000 * (r - 1) * (r - 1):=IntWalk.i64_in _ (by rw [Int.mul_assoc];omega)
     clear hp h1 sb qs qd e1 e2 hE LE hee a1 a2 r0 r2 LAW hz
     go_wp2
     go_quiet (fail)
     go_wp2
     go_ret
     exact ⟨rfl,by first|exact G9.out.below|exact (G9.out.drewN _).below|exact (G9.out.drew).below⟩
end Go.Proofs.YtlnpefiipdkafaaGreatDoor
