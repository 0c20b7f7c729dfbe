/-
  The walk of FnPlaces.
-/
import Derived.Test.YtlnpefiipdkafaaGreatDoorHI
import Derived.Test.YtlnpefiipdkafaaGreatDoorHJ
import Derived.Test.YtlnpefiipdkafaaGreatDoorHM
import Derived.Test.YtlnpefiipdkafaaGreatDoorHK
import Derived.Test.YtlnpefiipdkafaaGreatDoorHL
namespace Go.Proofs.YtlnpefiipdkafaaGreatDoor
open Go.RowKit
set_option maxHeartbeats 32000000 in
set_option maxRecDepth 10000 in
theorem walk_FnPlaces {v:Value} {zs:List Int} {w:World} (hx:RBytes w v zs) :
  Calls Tryz.prog 3 #[v] w fun e w'=>e=.returned (.bool true)∧Below w.heap.size w w':=by
 have HX:=hideIt hx
 clear hx
 go_enter Tryz.func3,Tryz.ntmps3
 go_wp2_with fail
 refine (big_any _ HX.out).mono ?_
 rintro e w1 ⟨rfl,rfl⟩
 cases hb:decide ((zs.length:Int)>4096)
 rotate_left
 ·go_wp2
  go_ret
  exact ⟨rfl,Below.refl _ _⟩
 clear hb
 go_wp2_with fail
 refine (drawPlaceCount_any HX.out).mono ?_
 rintro e u0 ⟨A0,n0,A1,n1,A2,n2,A3,n3,cs,xs,ns,ps,rfl,bnd,ld,g⟩
 have LW:=hideIt (ld.now bnd)
 obtain ⟨x6,y5,y10,p3,p5⟩:=bnd
 clear ld HX
 go_upto_region 4 with fail
 have PD:Hid (Blk ((u0.alloc (.cells #[.slice A0 cs.length n0] 26)).alloc (.cells #[.slice A1 xs.length n1,.slice A2 ns.length n2,.slice A3 ps.length n3] 31)) (u0.heap.size+1) 31 #[.slice A1 xs.length n1,.slice A2 ns.length n2,.slice A3 ps.length n3]):=hideIt (by have e:(u0.alloc (.cells #[.slice A0 cs.length n0] 26)).heap.size=u0.heap.size+1:=(by simp);have h:=Blk.new (u0.alloc (.cells #[.slice A0 cs.length n0] 26)) 31 #[.slice A1 xs.length n1,.slice A2 ns.length n2,.slice A3 ps.length n3];rw [e] at h;exact h)
 refine at_c (fun u=>LDR u (.slice A0 cs.length n0) cs (.slice A1 xs.length n1) xs (.slice A2 ns.length n2) ns (.slice A3 ps.length n3) ps∧Blk u u0.heap.size 26 #[.slice A0 cs.length n0]∧Blk u (u0.heap.size+1) 31 #[.slice A1 xs.length n1,.slice A2 ns.length n2,.slice A3 ps.length n3]∧Grows w u) ⟨LW.out.keep (((Grows.refl _).alloc _).alloc _),(Blk.new u0 _ _).grows ((Grows.refl _).alloc _),PD.out,(g.alloc _).alloc _⟩ (fun u1 hu=>?_)
 clear LW PD g
 obtain ⟨r1,b1,q1,g1⟩:=hu
 have LR:=hideIt r1
 have KL:=hideIt b1
 have KD:=hideIt q1
 have G:=hideIt g1
 clear r1 b1 q1 g1
 
 have fL:=KL.out.frozen
 have lL:=KL.out.lt
 have l0:=KL.out.cell 0
 have fD:=KD.out.frozen
 have lD:=KD.out.lt
 have d0:=KD.out.cell 0
 have d1:=KD.out.cell 1
 have d2:=KD.out.cell 2
 simp at l0 d0 d1 d2
 go_wp2_with fail
 refine (iCount_any _ LR.out.1 LR.out.2.1 LR.out.2.2.1 LR.out.2.2.2.1).mono ?_
 rintro e u2 ⟨rfl,g⟩
 clear fL lL l0 fD lD d0 d1 d2
 replace LR:=hideIt (LR.out.keep g)
 replace KL:=hideIt (KL.out.grows g)
 replace KD:=hideIt (KD.out.grows g)
 replace G:=hideIt (G.out.trans g)
 clear g
 have fL:=KL.out.frozen
 have lL:=KL.out.lt
 have l0:=KL.out.cell 0
 have fD:=KD.out.frozen
 have lD:=KD.out.lt
 have d0:=KD.out.cell 0
 have d1:=KD.out.cell 1
 have d2:=KD.out.cell 2
 simp at l0 d0 d1 d2
 go_wp2_with fail
 refine (sIsDes_any _ LR.out.1 LR.out.2.1).mono ?_
 rintro e u3 ⟨rfl,g⟩
 clear fL lL l0 fD lD d0 d1 d2
 replace LR:=hideIt (LR.out.keep g)
 replace KL:=hideIt (KL.out.grows g)
 replace KD:=hideIt (KD.out.grows g)
 replace G:=hideIt (G.out.trans g)
 clear g
 have fL:=KL.out.frozen
 have lL:=KL.out.lt
 have l0:=KL.out.cell 0
 have fD:=KD.out.frozen
 have lD:=KD.out.lt
 have d0:=KD.out.cell 0
 have d1:=KD.out.cell 1
 have d2:=KD.out.cell 2
 simp at l0 d0 d1 d2
 cases hd:desB cs (⟨xs,ns,ps⟩:DesignD)
 ·have ec:countV cs (⟨xs,ns,ps⟩:DesignD)=-1:=by unfold countV;rw [hd];rfl
  rw [ec]
  clear ec
  go_wp2_with fail
  refine (iIsDes_any _ LR.out.1 LR.out.2.1 LR.out.2.2.1 LR.out.2.2.2.1).mono ?_
  rintro e u4 ⟨rfl,g⟩
  clear fL lL l0 fD lD d0 d1 d2
  replace LR:=hideIt (LR.out.keep g)
  replace KL:=hideIt (KL.out.grows g)
  replace KD:=hideIt (KD.out.grows g)
  replace G:=hideIt (G.out.trans g)
  clear g
  have fL:=KL.out.frozen
  have lL:=KL.out.lt
  have l0:=KL.out.cell 0
  have fD:=KD.out.frozen
  have lD:=KD.out.lt
  have d0:=KD.out.cell 0
  have d1:=KD.out.cell 1
  have d2:=KD.out.cell 2
  simp at l0 d0 d1 d2
  rw [hd]
  go_wp2
  go_ret
  exact ⟨rfl,G.out.below⟩
 ·have DP:Hid (DesP cs (⟨xs,ns,ps⟩:DesignD)):=hideIt (pB_iff.1 hd)
  obtain ⟨N,hN⟩:∃N:Nat,N=(placesL (⟨xs,ns,ps⟩:DesignD)).length:=⟨_,rfl⟩
  have ec:countV cs (⟨xs,ns,ps⟩:DesignD)=(N:Int):=by unfold countV;rw [hd,hN];rfl
  have N78:N≤78:=by rw [hN];exact places_len DP.out
  have PLW:Hid (∀p,p<N→PlaceLaw cs (⟨xs,ns,ps⟩:DesignD) p):=hideIt (fun p hp=>place_law DP.out (by rw [←hN];exact hp))
  have EC:=hideIt ec
  rw [ec]
  clear ec hN hd
  go_wp2_with fail
  refine (sCount_any _ LR.out.1 LR.out.2.1).mono ?_
  rintro e u4 ⟨rfl,g⟩
  rw [EC.out]
  clear fL lL l0 fD lD d0 d1 d2
  replace LR:=hideIt (LR.out.keep g)
  replace KL:=hideIt (KL.out.grows g)
  replace KD:=hideIt (KD.out.grows g)
  replace G:=hideIt (G.out.trans g)
  clear g
  have fL:=KL.out.frozen
  have lL:=KL.out.lt
  have l0:=KL.out.cell 0
  have fD:=KD.out.frozen
  have lD:=KD.out.lt
  have d0:=KD.out.cell 0
  have d1:=KD.out.cell 1
  have d2:=KD.out.cell 2
  simp at l0 d0 d1 d2
  go_wp2
  go_loopw [6,7,8,9,10,11] (fun pv s7 s8 s9 s10 s11 wr=>∃p:Nat,pv=.int .i64 (p:Int)∧p≤N∧Hid (LDR wr (.slice A0 cs.length n0) cs (.slice A1 xs.length n1) xs (.slice A2 ns.length n2) ns (.slice A3 ps.length n3) ps)∧Hid (Blk wr u0.heap.size 26 #[.slice A0 cs.length n0])∧Hid (Blk wr (u0.heap.size+1) 31 #[.slice A1 xs.length n1,.slice A2 ns.length n2,.slice A3 ps.length n3])∧Hid (Grows w wr)) (fun pv _ _ _ _ _ _=>N - (intOf pv).toNat)
  case atStart=>exact ⟨0,rfl,Nat.zero_le _,LR,KL,KD,G⟩
  case round =>
   clear LR KL KD G fL lL l0 fD lD d0 d1 d2
   obtain ⟨p,rfl,hp,LR,KL,KD,G⟩:=hrel
   by_cases hlt:p<N
   ·have hli:(p:Int)<(N:Int):=by omega
    have PL:=hideIt (PLW.out p hlt)
    obtain ⟨t,ht⟩:∃t:Bool,(drvV cs (⟨xs,ns,ps⟩:DesignD) (netV cs (⟨xs,ns,ps⟩:DesignD) (p:Int))==(p:Int))=t:=⟨_,rfl⟩
    have HT:Hid (decide ((p:Int)∈sinksV cs (⟨xs,ns,ps⟩:DesignD) (netV cs (⟨xs,ns,ps⟩:DesignD) (p:Int)))=!t):=hideIt (by
     have h:=PL.out.drives
     cases t
     ·have h1:¬drvV cs (⟨xs,ns,ps⟩:DesignD) (netV cs (⟨xs,ns,ps⟩:DesignD) (p:Int))=(p:Int):=by simpa using ht
      exact decide_eq_true (Decidable.byContradiction fun hn=>h1 (h.2 hn))
     ·have h1:drvV cs (⟨xs,ns,ps⟩:DesignD) (netV cs (⟨xs,ns,ps⟩:DesignD) (p:Int))=(p:Int):=by simpa using ht
      exact decide_eq_false (h.1 h1))
    have htt:(t==!t)=false:=by cases t<;>rfl
    have hpp:((p:Int) != (p:Int))=false:=by simp
    have hcap:¬capV cs (⟨xs,ns,ps⟩:DesignD) (p:Int)<0:=by have:=PL.out.cap;omega
    have hcad:decide (capV cs (⟨xs,ns,ps⟩:DesignD) (p:Int)<0)=false:=decide_eq_false hcap
    have fL:=KL.out.frozen
    have lL:=KL.out.lt
    have l0:=KL.out.cell 0
    have fD:=KD.out.frozen
    have lD:=KD.out.lt
    have d0:=KD.out.cell 0
    have d1:=KD.out.cell 1
    have d2:=KD.out.cell 2
    simp at l0 d0 d1 d2
    go_wp2_with fail
    refine (iInstOf_any (p:Int) _ LR.out.1 LR.out.2.1 LR.out.2.2.1 LR.out.2.2.2.1).mono ?_
    rintro e v1 ⟨rfl,g⟩
    clear fL lL l0 fD lD d0 d1 d2
    replace LR:=hideIt (LR.out.keep g)
    replace KL:=hideIt (KL.out.grows g)
    replace KD:=hideIt (KD.out.grows g)
    replace G:=hideIt (G.out.trans g)
    clear g
    have fL:=KL.out.frozen
    have lL:=KL.out.lt
    have l0:=KL.out.cell 0
    have fD:=KD.out.frozen
    have lD:=KD.out.lt
    have d0:=KD.out.cell 0
    have d1:=KD.out.cell 1
    have d2:=KD.out.cell 2
    simp at l0 d0 d1 d2
    go_wp2_with fail
    refine (iNetOf_any (p:Int) _ LR.out.1 LR.out.2.1 LR.out.2.2.1 LR.out.2.2.2.1).mono ?_
    rintro e v2 ⟨rfl,g⟩
    clear fL lL l0 fD lD d0 d1 d2
    replace LR:=hideIt (LR.out.keep g)
    replace KL:=hideIt (KL.out.grows g)
    replace KD:=hideIt (KD.out.grows g)
    replace G:=hideIt (G.out.trans g)
    clear g
    have fL:=KL.out.frozen
    have lL:=KL.out.lt
    have l0:=KL.out.cell 0
    have fD:=KD.out.frozen
    have lD:=KD.out.lt
    have d0:=KD.out.cell 0
    have d1:=KD.out.cell 1
    have d2:=KD.out.cell 2
    simp at l0 d0 d1 d2
    go_wp2_with fail
    refine (iSinksOf_any (netV cs (⟨xs,ns,ps⟩:DesignD) (p:Int)) _ LR.out.1 LR.out.2.1 LR.out.2.2.1 LR.out.2.2.2.1).mono ?_
    rintro e v3 ⟨As,c9,bs,rfl,os,-,g⟩
    have OS:=hideIt os.reads
    clear os
    clear fL lL l0 fD lD d0 d1 d2
    replace LR:=hideIt (LR.out.keep g)
    replace KL:=hideIt (KL.out.grows g)
    replace KD:=hideIt (KD.out.grows g)
    replace G:=hideIt (G.out.trans g)
    clear g
    have fL:=KL.out.frozen
    have lL:=KL.out.lt
    have l0:=KL.out.cell 0
    have fD:=KD.out.frozen
    have lD:=KD.out.lt
    have d0:=KD.out.cell 0
    have d1:=KD.out.cell 1
    have d2:=KD.out.cell 2
    simp at l0 d0 d1 d2
    go_wp2_with fail
    refine (iDriverOf_any (netV cs (⟨xs,ns,ps⟩:DesignD) (p:Int)) _ LR.out.1 LR.out.2.1 LR.out.2.2.1 LR.out.2.2.2.1).mono ?_
    rintro e v4 ⟨rfl,g⟩
    replace OS:=hideIt (OS.out.keep g.keeps)
    clear fL lL l0 fD lD d0 d1 d2
    replace LR:=hideIt (LR.out.keep g)
    replace KL:=hideIt (KL.out.grows g)
    replace KD:=hideIt (KD.out.grows g)
    replace G:=hideIt (G.out.trans g)
    clear g
    have fL:=KL.out.frozen
    have lL:=KL.out.lt
    have l0:=KL.out.cell 0
    have fD:=KD.out.frozen
    have lD:=KD.out.lt
    have d0:=KD.out.cell 0
    have d1:=KD.out.cell 1
    have d2:=KD.out.cell 2
    simp at l0 d0 d1 d2
    go_upto_region 16 with fail
    have LL:Hid (∀w',Grows v4 w'→w'.cell? ⟨u0.heap.size,0,none⟩=some (.slice A0 cs.length n0)∧w'.cell? ⟨u0.heap.size+1,0,none⟩=some (.slice A1 xs.length n1)∧w'.cell? ⟨u0.heap.size+1,1,none⟩=some (.slice A2 ns.length n2)∧w'.cell? ⟨u0.heap.size+1,2,none⟩=some (.slice A3 ps.length n3)):=hideIt (fun w' g=>⟨(KL.out.grows g).cell 0,(KD.out.grows g).cell 0,(KD.out.grows g).cell 1,(KD.out.grows g).cell 2⟩)
    have gg:Grows v4 v4:=Grows.refl _
    clear fL lL l0 fD lD d0 d1 d2
    refine wp_region_held_drew (S:=(fun w'=>Grows v4 w')) (by kernel_rfl) ?_ (fun hh0=>?_)
    ·(try dsimp only);(repeat with_reducible (first|exact gg|exact Grows.refl _|refine Grows.drew ?_|refine Grows.alloc ?_ _))
    refine regTake 0 (v:=.agg #[.slice A0 cs.length n0]) (fun w hw=>?_) hh0 ?_
    ·obtain ⟨k0,-⟩:=LL.out w hw
     go_simp
    try simp only [Act.put,List.setIfInBounds_toArray,List.set_cons_zero,List.set_cons_succ]
    refine regTake 1 (v:=.agg #[.slice A1 xs.length n1,.slice A2 ns.length n2,.slice A3 ps.length n3]) (fun w hw=>?_) hh0 ?_
    ·obtain ⟨-,k0,k1,k2⟩:=LL.out w hw
     go_simp
    try simp only [Act.put,List.setIfInBounds_toArray,List.set_cons_zero,List.set_cons_succ]
    refine regTake 2 (v:=.agg #[.slice A0 cs.length n0]) (fun w hw=>?_) hh0 ?_
    ·obtain ⟨k0,-⟩:=LL.out w hw
     go_simp
    try simp only [Act.put,List.setIfInBounds_toArray,List.set_cons_zero,List.set_cons_succ]
    refine regTake 3 (v:=.agg #[.slice A1 xs.length n1,.slice A2 ns.length n2,.slice A3 ps.length n3]) (fun w hw=>?_) hh0 ?_
    ·obtain ⟨-,k0,k1,k2⟩:=LL.out w hw
     go_simp
    try simp only [Act.put,List.setIfInBounds_toArray,List.set_cons_zero,List.set_cons_succ]
    refine regTk 4 hh0 ?_
    refine regTk 7 hh0 ?_
    refine regCall 5 (fun K hK=>?_)
    go_simp
    refine (iPlaceName_any (p:Int) _ ((LR.out.keep (Grows.refl _).drew).1) ((LR.out.keep (Grows.refl _).drew).2.1) ((LR.out.keep (Grows.refl _).drew).2.2.1) ((LR.out.keep (Grows.refl _).drew).2.2.2.1)).mono ?_
    rintro e v5 ⟨rfl,g⟩
    have gg:Grows v4 v5:=(gg.drew).trans g
    replace LR:=hideIt (LR.out.keep ((Grows.refl _).drew.trans g))
    replace OS:=hideIt (OS.out.keep (((Grows.refl _).drew.trans g)).keeps)
    clear g
    (try go_wp2_with fail)
    refine hK.out _ _ ?_ (fun hh1=>?_)
    ·(try dsimp only);(repeat with_reducible (first|exact gg|exact Grows.refl _|refine Grows.drew ?_|refine Grows.alloc ?_ _))
    clear hK K hh0
    try simp only [Act.put,List.setIfInBounds_toArray,List.set_cons_zero,List.set_cons_succ]
    refine regCall 6 (fun K hK=>?_)
    go_simp
    refine (iPlaceNamed_any _ _ LR.out.1 LR.out.2.1 LR.out.2.2.1 LR.out.2.2.2.1).mono ?_
    rintro e v6 ⟨rfl,g⟩
    have gg:Grows v4 v6:=gg.trans g
    replace LR:=hideIt (LR.out.keep g)
    replace OS:=hideIt (OS.out.keep (g).keeps)
    clear g
    rw [PL.out.named]
    (try go_wp2_with fail)
    refine hK.out _ _ ?_ (fun hh2=>?_)
    ·(try dsimp only);(repeat with_reducible (first|exact gg|exact Grows.refl _|refine Grows.drew ?_|refine Grows.alloc ?_ _))
    clear hK K hh1
    try simp only [Act.put,List.setIfInBounds_toArray,List.set_cons_zero,List.set_cons_succ]
    refine regTk 8 hh2 ?_
    refine regTk 9 hh2 ?_
    refine regTake 10 (v:=.agg #[.slice A0 cs.length n0]) (fun w hw=>?_) hh2 ?_
    ·obtain ⟨k0,-⟩:=LL.out w hw
     go_simp
    try simp only [Act.put,List.setIfInBounds_toArray,List.set_cons_zero,List.set_cons_succ]
    refine regTake 11 (v:=.agg #[.slice A1 xs.length n1,.slice A2 ns.length n2,.slice A3 ps.length n3]) (fun w hw=>?_) hh2 ?_
    ·obtain ⟨-,k0,k1,k2⟩:=LL.out w hw
     go_simp
    try simp only [Act.put,List.setIfInBounds_toArray,List.set_cons_zero,List.set_cons_succ]
    refine regTk 12 hh2 ?_
    refine regTk 13 hh2 ?_
    refine regTk 15 hh2 ?_
    refine regCall 14 (fun K hK=>?_)
    go_simp
    refine (iPlaceOf_any _ _ _ LR.out.1 LR.out.2.1 LR.out.2.2.1 LR.out.2.2.2.1).mono ?_
    rintro e v7 ⟨rfl,g⟩
    have gg:Grows v4 v7:=gg.trans g
    replace LR:=hideIt (LR.out.keep g)
    replace OS:=hideIt (OS.out.keep (g).keeps)
    clear g
    rw [PL.out.found]
    (try go_wp2_with fail)
    refine hK.out _ _ ?_ (fun hh3=>?_)
    ·(try dsimp only);(repeat with_reducible (first|exact gg|exact Grows.refl _|refine Grows.drew ?_|refine Grows.alloc ?_ _))
    clear hK K hh2
    try simp only [Act.put,List.setIfInBounds_toArray,List.set_cons_zero,List.set_cons_succ]
    refine regTk 16 hh3 ?_
    refine regTk 17 hh3 ?_
    refine regTk 18 hh3 ?_
    refine regTk 19 hh3 ?_
    refine regTk 20 hh3 ?_
    refine regTk 21 hh3 ?_
    refine regCall 22 (fun K hK=>?_)
    go_simp
    refine (hasInt_any (p:Int) _ OS.out).mono ?_
    rintro e v8 ⟨rfl,g⟩
    have gg:Grows v4 v8:=gg.trans g
    replace LR:=hideIt (LR.out.keep g)
    replace OS:=hideIt (OS.out.keep (g).keeps)
    clear g
    rw [HT.out]
    (try go_wp2_with fail)
    refine hK.out _ _ ?_ (fun hh4=>?_)
    ·(try dsimp only);(repeat with_reducible (first|exact gg|exact Grows.refl _|refine Grows.drew ?_|refine Grows.alloc ?_ _))
    clear hK K hh3
    try simp only [Act.put,List.setIfInBounds_toArray,List.set_cons_zero,List.set_cons_succ]
    refine regTk 23 hh4 ?_
    refine regTk 24 hh4 ?_
    refine regTk 25 hh4 ?_
    refine regTake 26 (v:=.agg #[.slice A0 cs.length n0]) (fun w hw=>?_) hh4 ?_
    ·obtain ⟨k0,-⟩:=LL.out w hw
     go_simp
    try simp only [Act.put,List.setIfInBounds_toArray,List.set_cons_zero,List.set_cons_succ]
    refine regTake 27 (v:=.agg #[.slice A1 xs.length n1,.slice A2 ns.length n2,.slice A3 ps.length n3]) (fun w hw=>?_) hh4 ?_
    ·obtain ⟨-,k0,k1,k2⟩:=LL.out w hw
     go_simp
    try simp only [Act.put,List.setIfInBounds_toArray,List.set_cons_zero,List.set_cons_succ]
    refine regTk 28 hh4 ?_
    refine regCall 29 (fun K hK=>?_)
    go_simp
    refine (iPlaceCap_any (p:Int) _ LR.out.1 LR.out.2.1 LR.out.2.2.1 LR.out.2.2.2.1).mono ?_
    rintro e v9 ⟨rfl,g⟩
    have gg:Grows v4 v9:=gg.trans g
    replace LR:=hideIt (LR.out.keep g)
    replace OS:=hideIt (OS.out.keep (g).keeps)
    clear g
    (try go_wp2_with fail)
    refine hK.out _ _ ?_ (fun hh5=>?_)
    ·(try dsimp only);(repeat with_reducible (first|exact gg|exact Grows.refl _|refine Grows.drew ?_|refine Grows.alloc ?_ _))
    clear hK K hh4
    try simp only [Act.put,List.setIfInBounds_toArray,List.set_cons_zero,List.set_cons_succ]
    refine regTk 30 hh5 ?_
    refine regTk 31 hh5 ?_
    refine wpAnyH_done (by kernel_rfl) ?_ _
    clear hh5 LL
    replace KL:=hideIt (KL.out.grows gg)
    replace KD:=hideIt (KD.out.grows gg)
    replace G:=hideIt (G.out.trans gg)
    clear gg
    go_wp2
    go_roundw
    case rel=>exact ⟨p+1,by go_num,by omega,hideIt (LR.out.keep (by repeat with_reducible (first|exact Grows.refl _|refine Grows.drew ?_))),hideIt (KL.out.grows (by repeat with_reducible (first|exact Grows.refl _|refine Grows.drew ?_))),hideIt (KD.out.grows (by repeat with_reducible (first|exact Grows.refl _|refine Grows.drew ?_))),hideIt (G.out.trans (by repeat with_reducible (first|exact Grows.refl _|refine Grows.drew ?_)))⟩
    case measure=>simp [intOf];omega
   ·have pe:p=N:=by omega
    have hle:¬(p:Int)<(N:Int):=by omega
    go_wp2
    go_ret
    exact ⟨rfl,G.out.below⟩
end Go.Proofs.YtlnpefiipdkafaaGreatDoor
