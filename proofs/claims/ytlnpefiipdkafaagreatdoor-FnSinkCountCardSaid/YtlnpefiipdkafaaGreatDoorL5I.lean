/-
  Drawn arguments of the laws over sinks.
-/
import Derived.Test.YtlnpefiipdkafaaGreatDoorHI
namespace Go.Proofs.YtlnpefiipdkafaaGreatDoor
open Go.RowKit
set_option maxHeartbeats 8000000 in
set_option maxRecDepth 10000 in
theorem drawDriverOf_any {v:Value} {zs:List Int} {w:World} (hx:RBytes w v zs):Calls Tryz.prog 56 #[v] w (DesZ w):=by
 have HX:=hideIt hx
 clear hx
 have R0:Hid (Blk ((w.alloc (.cells #[.slice none 0 0] 26)).alloc (.cells #[.slice none 0 0,.slice none 0 0,.slice none 0 0] 31)) w.heap.size 26 #[.slice none 0 0]):=hideIt ((Blk.new w _ _).grows ((Grows.refl _).alloc _))
 have R1:Hid (Blk ((w.alloc (.cells #[.slice none 0 0] 26)).alloc (.cells #[.slice none 0 0,.slice none 0 0,.slice none 0 0] 31)) (w.heap.size+1) 31 #[.slice none 0 0,.slice none 0 0,.slice none 0 0]):=hideIt (by have e:(w.alloc (.cells #[.slice none 0 0] 26)).heap.size=w.heap.size+1:=(by simp);have h:=Blk.new (w.alloc (.cells #[.slice none 0 0] 26)) 31 #[.slice none 0 0,.slice none 0 0,.slice none 0 0];rw [e] at h;exact h)
 have G2:Hid (Grows w ((w.alloc (.cells #[.slice none 0 0] 26)).alloc (.cells #[.slice none 0 0,.slice none 0 0,.slice none 0 0] 31))):=hideIt (((Grows.refl w).alloc _).alloc _)
 go_enter Tryz.func56,Tryz.ntmps56
 go_wp2_with fail
 refine (l01From_at HX.out G2.out).mono ?_
 rintro e u0 ⟨b,rfl,h_,hb_,g_⟩
 have HB:Hid (w.heap.size+2≤b):=hideIt (by simpa using hb_)
 have HS:=hideIt h_
 have LB:Hid (b<u0.heap.size):=hideIt h_.ge.2.2
 replace R0:=hideIt (R0.out.grows g_)
 replace R1:=hideIt (R1.out.grows g_)
 clear h_ hb_ g_
 have NR:Hid (w.heap.size∉[b]∧w.heap.size+1∉[b]):=hideIt (by have:=HB.out;simp;omega)
 go_wp2_with fail
 refine (l05DrawAny_any (w0:=w) HS.out).mono ?_
 rintro e u1 ⟨A0,n0,A1,n1,A2,n2,A3,n3,cs,xs,ns,ps,rfl,ld,⟨x6,y5,y10,p3,p5⟩,h_,c_⟩
 replace HS:=hideIt h_
 replace R0:=hideIt (R0.out.chg c_ NR.out.1)
 replace R1:=hideIt (R1.out.chg c_ NR.out.2)
 have S1:Hid (u0.heap.size≤u1.heap.size):=hideIt c_.size
 have LD:=hideIt ld
 clear ld h_ c_
 go_upto_region 3 with fail
 have PD:Hid (Blk ((u1.alloc (.cells #[.slice A0 cs.length n0] 26)).alloc (.cells #[.slice A1 xs.length n1,.slice A2 ns.length n2,.slice A3 ps.length n3] 31)) (u1.heap.size+1) 31 #[.slice A1 xs.length n1,.slice A2 ns.length n2,.slice A3 ps.length n3]):=hideIt (by have e:(u1.alloc (.cells #[.slice A0 cs.length n0] 26)).heap.size=u1.heap.size+1:=(by simp);have h:=Blk.new (u1.alloc (.cells #[.slice A0 cs.length n0] 26)) 31 #[.slice A1 xs.length n1,.slice A2 ns.length n2,.slice A3 ps.length n3];rw [e] at h;exact h)
 refine at_c (fun u=>SrcAt w u b∧Blk u w.heap.size 26 #[.slice none 0 0]∧Blk u (w.heap.size+1) 31 #[.slice none 0 0,.slice none 0 0,.slice none 0 0]∧Blk u u1.heap.size 26 #[.slice A0 cs.length n0]∧Blk u (u1.heap.size+1) 31 #[.slice A1 xs.length n1,.slice A2 ns.length n2,.slice A3 ps.length n3]∧Chg [] u1 u) ⟨(HS.out.alloc _).alloc _,R0.out.grows (((Grows.refl _).alloc _).alloc _),R1.out.grows (((Grows.refl _).alloc _).alloc _),(Blk.new u1 _ _).grows ((Grows.refl _).alloc _),PD.out,Chg.of_grows (((Grows.refl _).alloc _).alloc _)⟩ (fun u2 hu=>?_)
 obtain ⟨s2,r2,d2,b2,p2,c2⟩:=hu
 replace HS:=hideIt s2
 replace R0:=hideIt r2
 replace R1:=hideIt d2
 replace LD:=hideIt (LD.out.next c2 (by simp))
 have KL:=hideIt b2
 have KD:=hideIt p2
 clear s2 r2 d2 b2 p2 c2 PD
 have LL:Hid (∀w',Chg [b,w.heap.size,w.heap.size+1] u2 w'→w'.cell? ⟨u1.heap.size,0,none⟩=some (.slice A0 cs.length n0)∧w'.cell? ⟨u1.heap.size+1,0,none⟩=some (.slice A1 xs.length n1)∧w'.cell? ⟨u1.heap.size+1,1,none⟩=some (.slice A2 ns.length n2)∧w'.cell? ⟨u1.heap.size+1,2,none⟩=some (.slice A3 ps.length n3)):=hideIt (fun w' c=>by
  have h1:=KL.out.chg c (by have:=HB.out;have:=LB.out;have:=S1.out;simp;omega)
  have h2:=KD.out.chg c (by have:=HB.out;have:=LB.out;have:=S1.out;simp;omega)
  exact ⟨h1.cell 0,h2.cell 0,h2.cell 1,h2.cell 2⟩)
 have gg:Chg [b,w.heap.size,w.heap.size+1] u2 u2:=Chg.refl _ _
 have ew2:IntKind.i64.wrap ((ns.length:Int)+2)=(ns.length:Int)+2:=IntWalk.i64_in _ (by omega)
 have f0:=R0.out.frozen
 have l0:=R0.out.lt
 have k0:=R0.out.cell 0
 have f1:=R1.out.frozen
 have l1:=R1.out.lt
 have z0:=R1.out.cell 0
 have z1:=R1.out.cell 1
 have z2:=R1.out.cell 2
 simp at k0 z0 z1 z2
 refine wp_region_held_drew (S:=(fun w'=>Chg [b,w.heap.size,w.heap.size+1] u2 w')) (by kernel_rfl) ?_ (fun hh0=>?_)
 ·(try dsimp only);(repeat with_reducible (first|exact gg|exact Chg.refl _ _|refine Chg.drew ?_|refine Chg.alloc ?_ _|refine Chg.setCell ?_ (by simp) _))
 refine regTake 0 (v:=.agg #[.slice A0 cs.length n0]) (fun w hw=>?_) hh0 ?_
 ·obtain ⟨k0,-⟩:=LL.out w hw
  go_simp
 try simp only [Act.put,List.setIfInBounds_toArray,List.set_cons_zero,List.set_cons_succ]
 refine regTake 1 (v:=.agg #[.slice A1 xs.length n1,.slice A2 ns.length n2,.slice A3 ps.length n3]) (fun w hw=>?_) hh0 ?_
 ·obtain ⟨-,k0,k1,k2⟩:=LL.out w hw
  go_simp
 try simp only [Act.put,List.setIfInBounds_toArray,List.set_cons_zero,List.set_cons_succ]
 refine regTk 2 hh0 ?_
 refine regTk 3 hh0 ?_
 refine regTake 4 (v:=.slice A2 ns.length n2) (fun w hw=>?_) hh0 ?_
 ·obtain ⟨-,-,k1,-⟩:=LL.out w hw
  go_simp
 try simp only [Act.put,List.setIfInBounds_toArray,List.set_cons_zero,List.set_cons_succ]
 refine regTk 5 hh0 ?_
 refine regTk 6 hh0 ?_
 refine regCall 7 (fun K hK=>?_)
 go_simp
 refine (l01Next_any (w0:=w) ((ns.length:Int)+2) HS.out.drew).mono ?_
 rintro e u3 ⟨r,rfl,ra,rb,h_,c_⟩
 have gg:Chg [b,w.heap.size,w.heap.size+1] u2 u3:=((Chg.refl _ _).drew).trans (c_.mono (by simp))
 have cb:=((Chg.refl [b] u2).drew).trans c_
 have rc:=rb (by omega)
 have ewr:IntKind.i64.wrap (r - 1)=r - 1:=IntWalk.i64_in _ (by omega)
 replace HS:=hideIt h_
 replace R0:=hideIt (R0.out.chg cb NR.out.1)
 replace R1:=hideIt (R1.out.chg cb NR.out.2)
 have NB:∀g∈[b],g<u0.heap.size∨g∈([]:List Nat):=fun g hg=>.inl (by simp at hg;subst hg;exact LB.out)
 replace LD:=hideIt (LD.out.next cb NB)
 clear NB
 clear h_ c_ cb rb f0 l0 k0 f1 l1 z0 z1 z2
 have f0:=R0.out.frozen
 have l0:=R0.out.lt
 have k0:=R0.out.cell 0
 have f1:=R1.out.frozen
 have l1:=R1.out.lt
 have z0:=R1.out.cell 0
 have z1:=R1.out.cell 1
 have z2:=R1.out.cell 2
 simp at k0 z0 z1 z2
 (try go_wp2_with fail)
 refine hK.out _ _ ?_ (fun hh1=>?_)
 ·(try dsimp only);(repeat with_reducible (first|exact gg|exact Chg.refl _ _|refine Chg.drew ?_|refine Chg.alloc ?_ _|refine Chg.setCell ?_ (by simp) _))
 clear hK K hh0
 try simp only [Act.put,List.setIfInBounds_toArray,List.set_cons_zero,List.set_cons_succ]
 refine regTk 8 hh1 ?_
 refine regCall 9 (fun K hK=>?_)
 go_simp
 (try go_wp2_with fail)
 refine hK.out _ _ ?_ (fun hh2=>?_)
 ·(try dsimp only);(repeat with_reducible (first|exact gg|exact Chg.refl _ _|refine Chg.drew ?_|refine Chg.alloc ?_ _|refine Chg.setCell ?_ (by simp) _))
 clear hK K hh1
 try simp only [Act.put,List.setIfInBounds_toArray,List.set_cons_zero,List.set_cons_succ]
 refine regCall 10 (fun K hK=>?_)
 go_simp
 (try go_wp2_with fail)
 refine hK.out _ _ ?_ (fun hh3=>?_)
 ·(try dsimp only);(repeat with_reducible (first|exact gg|exact Chg.refl _ _|refine Chg.drew ?_|refine Chg.alloc ?_ _|refine Chg.setCell ?_ (by simp) _))
 clear hK K hh2
 try simp only [Act.put,List.setIfInBounds_toArray,List.set_cons_zero,List.set_cons_succ]
 refine regTk 11 hh3 ?_
 refine wpAnyH_done (by kernel_rfl) ?_ _
 clear hh3 LL
 go_wp2
 refine bodyPost_ret (by simp [*,results,Tryz.results56,go_sem];try rfl) rfl ?_
 exact ⟨A0,n0,A1,n1,A2,n2,A3,n3,cs,xs,ns,ps,_,rfl,⟨x6,y5,y10,p3,p5⟩,des_end HS.out.ge.2.1 LD.out (by repeat with_reducible (first|exact Chg.refl _ _|refine Chg.drew ?_|refine Chg.setCell ?_ (by simp) _)) (by have:=HB.out;have:=LB.out;omega)⟩
set_option maxHeartbeats 8000000 in
set_option maxRecDepth 10000 in
theorem drawSinksOf_any {v:Value} {zs:List Int} {w:World} (hx:RBytes w v zs):Calls Tryz.prog 22 #[v] w (DesZ w):=by
 have HX:=hideIt hx
 clear hx
 have R0:Hid (Blk ((w.alloc (.cells #[.slice none 0 0] 26)).alloc (.cells #[.slice none 0 0,.slice none 0 0,.slice none 0 0] 31)) w.heap.size 26 #[.slice none 0 0]):=hideIt ((Blk.new w _ _).grows ((Grows.refl _).alloc _))
 have R1:Hid (Blk ((w.alloc (.cells #[.slice none 0 0] 26)).alloc (.cells #[.slice none 0 0,.slice none 0 0,.slice none 0 0] 31)) (w.heap.size+1) 31 #[.slice none 0 0,.slice none 0 0,.slice none 0 0]):=hideIt (by have e:(w.alloc (.cells #[.slice none 0 0] 26)).heap.size=w.heap.size+1:=(by simp);have h:=Blk.new (w.alloc (.cells #[.slice none 0 0] 26)) 31 #[.slice none 0 0,.slice none 0 0,.slice none 0 0];rw [e] at h;exact h)
 have G2:Hid (Grows w ((w.alloc (.cells #[.slice none 0 0] 26)).alloc (.cells #[.slice none 0 0,.slice none 0 0,.slice none 0 0] 31))):=hideIt (((Grows.refl w).alloc _).alloc _)
 go_enter Tryz.func22,Tryz.ntmps22
 go_wp2_with fail
 refine (drawDriverOf_any (RList.keep HX.out G2.out.keeps fun _ _ h=>h)).mono ?_
 rintro e u1 ⟨A0,n0,A1,n1,A2,n2,A3,n3,cs,xs,ns,ps,z,rfl,bnd,ld,g_⟩
 replace R0:=hideIt (R0.out.grows g_)
 replace R1:=hideIt (R1.out.grows g_)
 replace G2:=hideIt (G2.out.trans g_)
 have LD:=hideIt ld
 clear ld g_
 have f0:=R0.out.frozen
 have l0:=R0.out.lt
 have k0:=R0.out.cell 0
 have f1:=R1.out.frozen
 have l1:=R1.out.lt
 have z0:=R1.out.cell 0
 have z1:=R1.out.cell 1
 have z2:=R1.out.cell 2
 simp at k0 z0 z1 z2
 go_wp2
 refine bodyPost_ret (by simp [*,results,Tryz.results22,go_sem];try rfl) rfl ?_
 exact ⟨A0,n0,A1,n1,A2,n2,A3,n3,cs,xs,ns,ps,_,rfl,bnd,des_end G2.out LD.out (by repeat with_reducible (first|exact Chg.refl _ _|refine Chg.setCell ?_ (by simp) _)) (by simp)⟩
end Go.Proofs.YtlnpefiipdkafaaGreatDoor
