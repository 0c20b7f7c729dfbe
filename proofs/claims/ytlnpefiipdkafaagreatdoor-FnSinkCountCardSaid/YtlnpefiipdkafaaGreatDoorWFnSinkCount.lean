/-
  The walk of FnSinkCount.
-/
import Derived.Test.YtlnpefiipdkafaaGreatDoorL5I
import Derived.Test.YtlnpefiipdkafaaGreatDoorHJ
import Derived.Test.YtlnpefiipdkafaaGreatDoorHK
import Derived.Test.YtlnpefiipdkafaaGreatDoorHL
namespace Go.Proofs.YtlnpefiipdkafaaGreatDoor
open Go.RowKit
set_option maxHeartbeats 32000000 in
set_option maxRecDepth 10000 in
theorem walk_FnSinkCount {v:Value} {zs:List Int} {w:World} (hx:RBytes w v zs) :
  Calls Tryz.prog 4 #[v] w fun e w'=>e=.returned (.bool true)∧Below w.heap.size w w':=by
 have HX:=hideIt hx
 clear hx
 go_enter Tryz.func4,Tryz.ntmps4
 go_wp2_with fail
 refine (big_any _ HX.out).mono ?_
 rintro e w1 ⟨rfl,rfl⟩
 cases hb:decide ((zs.length:Int)>4096)
 rotate_left
 ·go_wp2
  go_ret
  exact ⟨rfl,Below.refl _ _⟩
 clear hb
 go_wp2_with fail
 refine (drawSinksOf_any HX.out).mono ?_
 rintro e u0 ⟨A0,n0,A1,n1,A2,n2,A3,n3,cs,xs,ns,ps,z_,rfl,bnd,ld,g⟩
 have LW:=hideIt (ld.now bnd)
 obtain ⟨x6,y5,y10,p3,p5⟩:=bnd
 clear ld HX
 go_upto_region 4 with fail
 have PD:Hid (Blk ((u0.alloc (.cells #[.slice A0 cs.length n0] 26)).alloc (.cells #[.slice A1 xs.length n1,.slice A2 ns.length n2,.slice A3 ps.length n3] 31)) (u0.heap.size+1) 31 #[.slice A1 xs.length n1,.slice A2 ns.length n2,.slice A3 ps.length n3]):=hideIt (by have e:(u0.alloc (.cells #[.slice A0 cs.length n0] 26)).heap.size=u0.heap.size+1:=(by simp);have h:=Blk.new (u0.alloc (.cells #[.slice A0 cs.length n0] 26)) 31 #[.slice A1 xs.length n1,.slice A2 ns.length n2,.slice A3 ps.length n3];rw [e] at h;exact h)
 refine at_c (fun u=>LDR u (.slice A0 cs.length n0) cs (.slice A1 xs.length n1) xs (.slice A2 ns.length n2) ns (.slice A3 ps.length n3) ps∧Blk u u0.heap.size 26 #[.slice A0 cs.length n0]∧Blk u (u0.heap.size+1) 31 #[.slice A1 xs.length n1,.slice A2 ns.length n2,.slice A3 ps.length n3]∧Grows w u) ⟨LW.out.keep (((Grows.refl _).alloc _).alloc _),(Blk.new u0 _ _).grows ((Grows.refl _).alloc _),PD.out,(g.alloc _).alloc _⟩ (fun u1 hu=>?_)
 clear LW PD g
 obtain ⟨r1,b1,q1,g1⟩:=hu
 have LR:=hideIt r1
 have KL:=hideIt b1
 have KD:=hideIt q1
 have G:=hideIt g1
 clear r1 b1 q1 g1
 
 have fL:=KL.out.frozen
 have lL:=KL.out.lt
 have l0:=KL.out.cell 0
 have fD:=KD.out.frozen
 have lD:=KD.out.lt
 have d0:=KD.out.cell 0
 have d1:=KD.out.cell 1
 have d2:=KD.out.cell 2
 simp at l0 d0 d1 d2
 go_wp2_with fail
 refine (sIsDes_any _ LR.out.1 LR.out.2.1).mono ?_
 rintro e u3 ⟨rfl,g⟩
 clear fL lL l0 fD lD d0 d1 d2
 replace LR:=hideIt (LR.out.keep g)
 replace KL:=hideIt (KL.out.grows g)
 replace KD:=hideIt (KD.out.grows g)
 replace G:=hideIt (G.out.trans g)
 clear g
 have fL:=KL.out.frozen
 have lL:=KL.out.lt
 have l0:=KL.out.cell 0
 have fD:=KD.out.frozen
 have lD:=KD.out.lt
 have d0:=KD.out.cell 0
 have d1:=KD.out.cell 1
 have d2:=KD.out.cell 2
 simp at l0 d0 d1 d2
 cases hd:desB cs (⟨xs,ns,ps⟩:DesignD)
 ·have es:sinksV cs (⟨xs,ns,ps⟩:DesignD) 0=[]:=by unfold sinksV;rw [hd];rfl
  have ed:drvV cs (⟨xs,ns,ps⟩:DesignD) 0=-1:=by unfold drvV;rw [hd];rfl
  have ES:=hideIt es
  have ED:=hideIt ed
  clear es ed hd
  go_wp2_with fail
  refine (iSinksOf_any 0 _ LR.out.1 LR.out.2.1 LR.out.2.2.1 LR.out.2.2.2.1).mono ?_
  rintro e v3 ⟨As,c9,bs,rfl,-,-,g⟩
  rw [ES.out]
  simp only [List.length_nil]
  clear fL lL l0 fD lD d0 d1 d2
  replace LR:=hideIt (LR.out.keep g)
  replace KL:=hideIt (KL.out.grows g)
  replace KD:=hideIt (KD.out.grows g)
  replace G:=hideIt (G.out.trans g)
  clear g
  have fL:=KL.out.frozen
  have lL:=KL.out.lt
  have l0:=KL.out.cell 0
  have fD:=KD.out.frozen
  have lD:=KD.out.lt
  have d0:=KD.out.cell 0
  have d1:=KD.out.cell 1
  have d2:=KD.out.cell 2
  simp at l0 d0 d1 d2
  go_wp2_with fail
  refine (iDriverOf_any 0 _ LR.out.1 LR.out.2.1 LR.out.2.2.1 LR.out.2.2.2.1).mono ?_
  rintro e v4 ⟨rfl,g⟩
  rw [ED.out]
  clear fL lL l0 fD lD d0 d1 d2
  replace LR:=hideIt (LR.out.keep g)
  replace KL:=hideIt (KL.out.grows g)
  replace KD:=hideIt (KD.out.grows g)
  replace G:=hideIt (G.out.trans g)
  clear g
  have fL:=KL.out.frozen
  have lL:=KL.out.lt
  have l0:=KL.out.cell 0
  have fD:=KD.out.frozen
  have lD:=KD.out.lt
  have d0:=KD.out.cell 0
  have d1:=KD.out.cell 1
  have d2:=KD.out.cell 2
  simp at l0 d0 d1 d2
  go_wp2
  go_ret
  exact ⟨rfl,G.out.below⟩
 ·have DP:Hid (DesP cs (⟨xs,ns,ps⟩:DesignD)):=hideIt (pB_iff.1 hd)
  obtain ⟨N,hN⟩:∃N:Nat,N=(placesL (⟨xs,ns,ps⟩:DesignD)).length:=⟨_,rfl⟩
  have EC:Hid (countV cs (⟨xs,ns,ps⟩:DesignD)=(N:Int)):=hideIt (by unfold countV;rw [hd,hN];rfl)
  have EV:Hid (∀n,sinksV cs (⟨xs,ns,ps⟩:DesignD) n=sinksL (⟨xs,ns,ps⟩:DesignD) n):=hideIt (fun n=>by unfold sinksV;rw [hd];rfl)
  have N78:N≤78:=by rw [hN];exact places_len DP.out
  have SA:Hid (sumS (⟨xs,ns,ps⟩:DesignD) ns.length+ns.length=N):=hideIt (by rw [hN];exact sum_all DP.out)
  have SLE:Hid (∀k,k≤ns.length→sumS (⟨xs,ns,ps⟩:DesignD) k≤78):=hideIt (fun k _=>sumS_le DP.out k)
  have SLN:Hid (∀n,(sinksL (⟨xs,ns,ps⟩:DesignD) n).length≤78):=hideIt (fun n=>Nat.le_trans (snkL_len _ _ _) (places_len DP.out))
  clear hN hd
  go_wp2
  go_loopw [6,7,8,9] (fun sv nv s8 s9 wr=>∃k:Nat,nv=.int .i64 (k:Int)∧sv=.int .i64 (sumS (⟨xs,ns,ps⟩:DesignD) k:Int)∧k≤ns.length∧Hid (LDR wr (.slice A0 cs.length n0) cs (.slice A1 xs.length n1) xs (.slice A2 ns.length n2) ns (.slice A3 ps.length n3) ps)∧Hid (Blk wr u0.heap.size 26 #[.slice A0 cs.length n0])∧Hid (Blk wr (u0.heap.size+1) 31 #[.slice A1 xs.length n1,.slice A2 ns.length n2,.slice A3 ps.length n3])∧Hid (Grows w wr)) (fun _ nv _ _ _=>ns.length - (intOf nv).toNat)
  case atStart=>exact ⟨0,rfl,rfl,Nat.zero_le _,LR,KL,KD,G⟩
  case round =>
   clear LR KL KD G fL lL l0 fD lD d0 d1 d2
   obtain ⟨k,rfl,rfl,hk,LR,KL,KD,G⟩:=hrel
   have ki:(k:Int)≤(ns.length:Int):=by omega
   have sk:=SLE.out k hk
   have fL:=KL.out.frozen
   have lL:=KL.out.lt
   have l0:=KL.out.cell 0
   have fD:=KD.out.frozen
   have lD:=KD.out.lt
   have d0:=KD.out.cell 0
   have d1:=KD.out.cell 1
   have d2:=KD.out.cell 2
   simp at l0 d0 d1 d2
   by_cases hlt:k<ns.length
   ·have hli:(k:Int)<(ns.length:Int):=by omega
    go_wp2_with fail
    refine (iSinksOf_any (k:Int) _ LR.out.1 LR.out.2.1 LR.out.2.2.1 LR.out.2.2.2.1).mono ?_
    rintro e v3 ⟨As,c9,bs,rfl,os,-,g⟩
    rw [EV.out] at os ⊢
    have OS:=hideIt os.reads
    clear os
    clear fL lL l0 fD lD d0 d1 d2
    replace LR:=hideIt (LR.out.keep g)
    replace KL:=hideIt (KL.out.grows g)
    replace KD:=hideIt (KD.out.grows g)
    replace G:=hideIt (G.out.trans g)
    clear g
    obtain ⟨S,hS⟩:∃S,S=sinksL (⟨xs,ns,ps⟩:DesignD) (k:Int):=⟨_,rfl⟩
    have UP:Hid (∀(q:Nat) (x y:Int),S[q]?=some x→S[q+1]?=some y→x<y):=hideIt (fun q x y h1 h2=>by subst hS;exact sinks_up h1 h2)
    have SN:Hid (sumS (⟨xs,ns,ps⟩:DesignD) (k+1)=sumS (⟨xs,ns,ps⟩:DesignD) k+S.length):=hideIt (by subst hS;rfl)
    have sl:S.length≤78:=by rw [hS];exact SLN.out _
    rw [←hS] at OS ⊢
    clear hS
    go_wp2
    go_loopw [9] (fun iv wr=>∃q:Nat,iv=.int .i64 ((q:Int)+1)∧q≤S.length∧Hid (Grows v3 wr)) (fun iv _=>S.length+1 - (intOf iv).toNat)
    case atStart=>exact ⟨0,by go_num,Nat.zero_le _,hideIt (Grows.refl _)⟩
    case round =>
     obtain ⟨q,rfl,hq,GQ⟩:=hrel
     have eq1:((q:Int)+1) - 1=(q:Int):=by omega
     by_cases hlq:q+1<S.length
     ·have hlqi:(q:Int)+1<(S.length:Int):=by omega
      obtain ⟨x,hx⟩:∃x,S[q]?=some x:=⟨_,List.getElem?_eq_getElem (by omega)⟩
      obtain ⟨y,hy⟩:∃y,S[q+1]?=some y:=⟨_,List.getElem?_eq_getElem (by omega)⟩
      have hxy:=UP.out q x y hx hy
      obtain ⟨b1,o1,ea,c1⟩:=ints_at (OS.out.keep GQ.out.keeps) hx
      subst ea
      obtain ⟨b2,o2,ea,c2⟩:=ints_at (OS.out.keep GQ.out.keeps) hy
      have eb:b1=b2∧o1=o2:=by
       injection ea with ea
       injection ea with e1 e2
       exact ⟨e1,e2⟩
      obtain ⟨rfl,rfl⟩:=eb
      have q1n:q<S.length:=by omega
      have q1i:(q:Int)<(S.length:Int):=by omega
      have hge:¬y≤x:=by omega
      have hge2:decide (y≤x)=false:=decide_eq_false hge
      clear ea hx hy
      go_wp2
      go_quiet (fail)
      go_wp2
      go_roundw
      case rel=>exact ⟨q+1,by go_num,by omega,by first|exact GQ|exact hideIt (GQ.out.drewN _)|exact hideIt (GQ.out.drew)⟩
      case measure=>simp [intOf];omega
     ·have hlqi:¬(q:Int)+1<(S.length:Int):=by omega
      have LR9:=hideIt (LR.out.keep GQ.out)
      have KL9:=hideIt (KL.out.grows GQ.out)
      have KD9:=hideIt (KD.out.grows GQ.out)
      have G9:=hideIt (G.out.trans GQ.out)
      go_wp2
      go_roundw
      case rel=>exact ⟨k+1,by go_num,by rw [SN.out];go_num,by omega,LR9,KL9,KD9,G9⟩
      case measure=>simp [intOf];omega
   ·have ke:k=ns.length:=by omega
    subst ke
    have hle:¬(ns.length:Int)<(ns.length:Int):=by omega
    go_upto_region 17 with fail
    have ewS:IntKind.i64.wrap ((sumS (⟨xs,ns,ps⟩:DesignD) ns.length:Int)+(ns.length:Int))=(sumS (⟨xs,ns,ps⟩:DesignD) ns.length:Int)+(ns.length:Int):=IntWalk.i64_in _ (by omega)
    have SAI:(((sumS (⟨xs,ns,ps⟩:DesignD) ns.length:Int)+(ns.length:Int))==(N:Int))=true:=by have:=SA.out;simp;omega
    have LL:Hid (∀w',Grows wr w'→w'.cell? ⟨u0.heap.size,0,none⟩=some (.slice A0 cs.length n0)∧w'.cell? ⟨u0.heap.size+1,0,none⟩=some (.slice A1 xs.length n1)∧w'.cell? ⟨u0.heap.size+1,1,none⟩=some (.slice A2 ns.length n2)∧w'.cell? ⟨u0.heap.size+1,2,none⟩=some (.slice A3 ps.length n3)):=hideIt (fun w' g=>⟨(KL.out.grows g).cell 0,(KD.out.grows g).cell 0,(KD.out.grows g).cell 1,(KD.out.grows g).cell 2⟩)
    have gg:Grows wr wr:=Grows.refl _
    clear fL lL l0 fD lD d0 d1 d2
    refine wp_region_held_drew (S:=(fun w'=>Grows wr w')) (by kernel_rfl) ?_ (fun hh0=>?_)
    ·(try dsimp only);(repeat with_reducible (first|exact gg|exact Grows.refl _|refine Grows.drew ?_|refine Grows.alloc ?_ _))
    refine regTk 0 hh0 ?_
    refine regTk 1 hh0 ?_
    refine regTake 2 (v:=.slice A2 ns.length n2) (fun w hw=>?_) hh0 ?_
    ·obtain ⟨-,-,k1,-⟩:=LL.out w hw
     go_simp
    try simp only [Act.put,List.setIfInBounds_toArray,List.set_cons_zero,List.set_cons_succ]
    refine regTk 3 hh0 ?_
    refine regTk 4 hh0 ?_
    refine regTake 5 (v:=.agg #[.slice A0 cs.length n0]) (fun w hw=>?_) hh0 ?_
    ·obtain ⟨k0,-⟩:=LL.out w hw
     go_simp
    try simp only [Act.put,List.setIfInBounds_toArray,List.set_cons_zero,List.set_cons_succ]
    refine regTake 6 (v:=.agg #[.slice A1 xs.length n1,.slice A2 ns.length n2,.slice A3 ps.length n3]) (fun w hw=>?_) hh0 ?_
    ·obtain ⟨-,k0,k1,k2⟩:=LL.out w hw
     go_simp
    try simp only [Act.put,List.setIfInBounds_toArray,List.set_cons_zero,List.set_cons_succ]
    refine regCall 7 (fun K hK=>?_)
    go_simp
    refine (iCount_any _ ((LR.out.keep (Grows.refl _).drew).1) ((LR.out.keep (Grows.refl _).drew).2.1) ((LR.out.keep (Grows.refl _).drew).2.2.1) ((LR.out.keep (Grows.refl _).drew).2.2.2.1)).mono ?_
    rintro e v5 ⟨rfl,g⟩
    rw [EC.out]
    have gg:Grows wr v5:=(gg.drew).trans g
    clear g
    (try go_wp2_with fail)
    refine hK.out _ _ ?_ (fun hh1=>?_)
    ·(try dsimp only);(repeat with_reducible (first|exact gg|exact Grows.refl _|refine Grows.drew ?_|refine Grows.alloc ?_ _))
    clear hK K hh0
    try simp only [Act.put,List.setIfInBounds_toArray,List.set_cons_zero,List.set_cons_succ]
    refine regTk 8 hh1 ?_
    refine regTk 9 hh1 ?_
    refine wpAnyH_done (by kernel_rfl) ?_ _
    clear hh1 LL
    replace G:=hideIt (G.out.trans gg)
    clear gg
    go_wp2
    go_ret
    exact ⟨rfl,G.out.below⟩
end Go.Proofs.YtlnpefiipdkafaaGreatDoor
