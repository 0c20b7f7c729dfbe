/-
  Drawn arguments of the law over slews.
-/
import Derived.Test.YtlnpefiipdkafaaGreatDoorHQ
namespace Go.Proofs.YtlnpefiipdkafaaGreatDoor
open Go.RowKit
def SlewR (w:World) (e:Ending) (w':World):Prop:=∃(A0:Option Addr) (n0:Nat) (A1:Option Addr) (n1:Nat) (A2:Option Addr) (n2:Nat) (A3:Option Addr) (n3:Nat) (A4:Option Addr) (n4:Nat) (cs:List CellD) (xs:List InstD) (ns:List ByteArray) (ps:List PortD) (ws:List WireD) (z1 z2 z3 z4:Int),e=.returned (.tuple #[.agg #[.slice A0 cs.length n0,.slice A1 xs.length n1,.slice A2 ns.length n2,.slice A3 ps.length n3,.slice A4 ws.length n4],.int .i64 z1,.int .i64 z2,.int .i64 z3,.int .i64 z4])∧BlkR w w' (.slice A0 cs.length n0) cs (.slice A1 xs.length n1) xs (.slice A2 ns.length n2) ns (.slice A3 ps.length n3) ps (.slice A4 ws.length n4) ws
theorem ints8_at {w:World} {g:Nat} {t:TypeId} {z0 z1 z2 z3 z4 z5 z6 z7:Int} (h:Blk w g t #[.int .i64 z0,.int .i64 z1,.int .i64 z2,.int .i64 z3,.int .i64 z4,.int .i64 z5,.int .i64 z6,.int .i64 z7]) {q:Nat} (hq:q<8):∃z:Int,w.cell? ⟨g,q,none⟩=some (.int .i64 z):=by
 rw [h.cell]
 rcases (by omega:q=0∨q=1∨q=2∨q=3∨q=4∨q=5∨q=6∨q=7) with rfl|rfl|rfl|rfl|rfl|rfl|rfl|rfl
 ·exact ⟨z0,rfl⟩
 ·exact ⟨z1,rfl⟩
 ·exact ⟨z2,rfl⟩
 ·exact ⟨z3,rfl⟩
 ·exact ⟨z4,rfl⟩
 ·exact ⟨z5,rfl⟩
 ·exact ⟨z6,rfl⟩
 ·exact ⟨z7,rfl⟩
set_option maxHeartbeats 16000000 in
set_option maxRecDepth 10000 in
theorem drawSinkSlew_any {v:Value} {zs:List Int} {w:World} (hx:RBytes w v zs):Calls Tryz.prog 30 #[v] w (SlewR w):=by
 have HX:=hideIt hx
 clear hx
 have R0:=hideIt (Blk.new w 49 #[.slice none 0 0,.slice none 0 0,.slice none 0 0,.slice none 0 0,.slice none 0 0])
 have G2:Hid (Grows w (w.alloc (.cells #[.slice none 0 0,.slice none 0 0,.slice none 0 0,.slice none 0 0,.slice none 0 0] 49))):=hideIt ((Grows.refl w).alloc _)
 go_enter Tryz.func30,Tryz.ntmps30
 go_wp2_with fail
 refine (l01From_at HX.out G2.out).mono ?_
 rintro e u0 ⟨b,rfl,h_,hb_,g_⟩
 have HB:Hid (w.heap.size+1≤b):=hideIt (by simpa using hb_)
 have HS:=hideIt h_
 have LB:Hid (b<u0.heap.size):=hideIt h_.ge.2.2
 replace R0:=hideIt (R0.out.grows g_)
 clear h_ hb_ g_
 have NR:Hid (w.heap.size∉[b]):=hideIt (by have:=HB.out;simp;omega)
 go_wp2_with fail
 refine (l07DrawAny_any (w0:=w) HS.out).mono ?_
 rintro e u1 ⟨A0,n0,A1,n1,A2,n2,A3,n3,A4,n4,cs,xs,ns,ps,ws,rfl,bw,h_,c_⟩
 replace HS:=hideIt h_
 replace R0:=hideIt (R0.out.chg c_ NR.out)
 have S1:Hid (u0.heap.size≤u1.heap.size):=hideIt c_.size
 have BD:=hideIt bw
 clear bw h_ c_
 go_upto_region 3 with fail
 refine at_c (fun u=>SrcAt w u b∧Blk u w.heap.size 49 #[.slice none 0 0,.slice none 0 0,.slice none 0 0,.slice none 0 0,.slice none 0 0]∧Blk u u1.heap.size 49 #[.slice A0 cs.length n0,.slice A1 xs.length n1,.slice A2 ns.length n2,.slice A3 ps.length n3,.slice A4 ws.length n4]∧BW (u0.heap.size+1) u0.heap.size u (.slice A0 cs.length n0) cs (.slice A1 xs.length n1) xs (.slice A2 ns.length n2) ns (.slice A3 ps.length n3) ps (.slice A4 ws.length n4) ws) ⟨HS.out.alloc _,R0.out.grows ((Grows.refl _).alloc _),Blk.new u1 _ _,BD.out.next (Chg.of_grows (bs:=[]) ((Grows.refl _).alloc _)) (by simp)⟩ (fun u2 hu=>?_)
 obtain ⟨s2,r2,p2,d2⟩:=hu
 replace HS:=hideIt s2
 replace R0:=hideIt r2
 have KB:=hideIt p2
 have LU2:Hid (u1.heap.size<u2.heap.size):=hideIt p2.lt
 replace BD:=hideIt d2
 clear s2 r2 p2 d2
 have B8:=hideIt (Blk.new u2 2 #[.int .i64 0,.int .i64 3,.int .i64 20,.int .i64 150,.int .i64 1000000,.int .i64 1000001,.int .i64 (-1),.int .i64 55])
 have GA:Grows u2 (u2.alloc (.cells #[.int .i64 0,.int .i64 3,.int .i64 20,.int .i64 150,.int .i64 1000000,.int .i64 1000001,.int .i64 (-1),.int .i64 55] 2)):=(Grows.refl _).alloc _
 replace HS:=hideIt (HS.out.grows GA)
 replace R0:=hideIt (R0.out.grows GA)
 replace KB:=hideIt (KB.out.grows GA)
 replace BD:=hideIt (BD.out.next (Chg.of_grows (bs:=[]) GA) (by simp))
 have NB8:Hid (u2.heap.size∉[b]):=hideIt (by have:=KB.out;have:=LB.out;have:=S1.out;have h1:=BD.out;have h2:u1.heap.size<u2.heap.size:=LU2.out;simp;omega)
 clear GA
 go_wp2_with fail
 refine (l01Next_any (w0:=w) 8 HS.out).mono ?_
 rintro e u3 ⟨q_,rfl,qa,qb,h_,c_⟩
 replace HS:=hideIt h_
 replace R0:=hideIt (R0.out.chg c_ NR.out)
 replace KB:=hideIt (KB.out.chg c_ (by have:=HB.out;have:=LB.out;have:=S1.out;simp;omega))
 replace B8:=hideIt (B8.out.chg c_ NB8.out)
 replace BD:=hideIt (BD.out.next c_ (fun g hg=>.inl (by simp at hg;subst hg;have:=LB.out;omega)))
 have qc:=qb (by omega)
 obtain ⟨q,rfl⟩:∃q:Nat,q_=(q:Int):=⟨q_.toNat,by omega⟩
 have q8:q<8:=by omega
 have q8i:(q:Int)<8:=by omega
 obtain ⟨sl,hsl⟩:=ints8_at B8.out q8
 clear qa qb qc h_ c_
 go_upto_region 4 with fail
 clear hsl
 have LL:Hid (∀w',Chg [b,w.heap.size] u3 w'→w'.cell? ⟨u1.heap.size,0,none⟩=some (.slice A0 cs.length n0)∧w'.cell? ⟨u1.heap.size,1,none⟩=some (.slice A1 xs.length n1)∧w'.cell? ⟨u1.heap.size,2,none⟩=some (.slice A2 ns.length n2)∧w'.cell? ⟨u1.heap.size,3,none⟩=some (.slice A3 ps.length n3)∧w'.cell? ⟨u1.heap.size,4,none⟩=some (.slice A4 ws.length n4)):=hideIt (fun w' c=>by
  have h1:=KB.out.chg c (by have:=HB.out;have:=LB.out;have:=S1.out;simp;omega)
  exact ⟨h1.cell 0,h1.cell 1,h1.cell 2,h1.cell 3,h1.cell 4⟩)
 have gg:Chg [b,w.heap.size] u3 u3:=Chg.refl _ _
 refine wp_region_held_drew (S:=(fun w'=>Chg [b,w.heap.size] u3 w')) (by kernel_rfl) ?_ (fun hh0=>?_)
 ·(try dsimp only);(repeat with_reducible (first|exact gg|exact Chg.refl _ _|refine Chg.drew ?_|refine Chg.alloc ?_ _|refine Chg.setCell ?_ (by simp) _))
 refine regTake 0 (v:=.agg #[.slice A0 cs.length n0,.slice A1 xs.length n1,.slice A2 ns.length n2,.slice A3 ps.length n3,.slice A4 ws.length n4]) (fun w hw=>?_) hh0 ?_
 ·obtain ⟨k0,k1,k2,k3,k4⟩:=LL.out w hw
  go_simp
 try simp only [Act.put,List.setIfInBounds_toArray,List.set_cons_zero,List.set_cons_succ]
 refine regTk 1 hh0 ?_
 refine regTake 2 (v:=.agg #[.slice A0 cs.length n0,.slice A1 xs.length n1,.slice A2 ns.length n2,.slice A3 ps.length n3,.slice A4 ws.length n4]) (fun w hw=>?_) hh0 ?_
 ·obtain ⟨k0,k1,k2,k3,k4⟩:=LL.out w hw
  go_simp
 try simp only [Act.put,List.setIfInBounds_toArray,List.set_cons_zero,List.set_cons_succ]
 refine regTk 4 hh0 ?_
 refine regTk 6 hh0 ?_
 refine regTk 10 hh0 ?_
 refine regTk 11 hh0 ?_
 refine regTk 13 hh0 ?_
 refine regCall 3 (fun K hK=>?_)
 go_simp
 refine (l07DrawNet_any (w0:=w) (m:=ws.length) HS.out.drew).mono ?_
 rintro e v1 ⟨zn,rfl,h_,c_⟩
 have cb:Chg [b] u3 v1:=((Chg.refl _ _).drew).trans c_
 have gg:Chg [b,w.heap.size] u3 v1:=gg.trans (cb.mono (by simp))
 replace HS:=hideIt h_
 replace R0:=hideIt (R0.out.chg cb NR.out)
 replace BD:=hideIt (BD.out.next cb (fun g hg=>.inl (by simp at hg;subst hg;have:=LB.out;omega)))
 clear h_ c_ cb
 (try go_wp2_with fail)
 refine hK.out _ _ ?_ (fun hh1=>?_)
 ·(try dsimp only);(repeat with_reducible (first|exact gg|exact Chg.refl _ _|refine Chg.drew ?_|refine Chg.alloc ?_ _|refine Chg.setCell ?_ (by simp) _))
 clear hK K hh0
 try simp only [Act.put,List.setIfInBounds_toArray,List.set_cons_zero,List.set_cons_succ]
 refine regCall 5 (fun K hK=>?_)
 go_simp
 refine (l01Next_any (w0:=w) 4 HS.out).mono ?_
 rintro e v2 ⟨ya,rfl,yaa,yab,h_,c_⟩
 have cb:Chg [b] v1 v2:=c_
 have gg:Chg [b,w.heap.size] u3 v2:=gg.trans (cb.mono (by simp))
 replace HS:=hideIt h_
 replace R0:=hideIt (R0.out.chg cb NR.out)
 replace BD:=hideIt (BD.out.next cb (fun g hg=>.inl (by simp at hg;subst hg;have:=LB.out;omega)))
 clear h_ c_ cb
 have yac:=yab (by omega)
 clear yab
 (try go_wp2_with fail)
 refine hK.out _ _ ?_ (fun hh2=>?_)
 ·(try dsimp only);(repeat with_reducible (first|exact gg|exact Chg.refl _ _|refine Chg.drew ?_|refine Chg.alloc ?_ _|refine Chg.setCell ?_ (by simp) _))
 clear hK K hh1
 try simp only [Act.put,List.setIfInBounds_toArray,List.set_cons_zero,List.set_cons_succ]
 refine regCall 7 (fun K hK=>?_)
 go_simp
 refine (l01Next_any (w0:=w) 12 HS.out).mono ?_
 rintro e v3 ⟨yb,rfl,yba,ybb,h_,c_⟩
 have cb:Chg [b] v2 v3:=c_
 have gg:Chg [b,w.heap.size] u3 v3:=gg.trans (cb.mono (by simp))
 replace HS:=hideIt h_
 replace R0:=hideIt (R0.out.chg cb NR.out)
 replace BD:=hideIt (BD.out.next cb (fun g hg=>.inl (by simp at hg;subst hg;have:=LB.out;omega)))
 clear h_ c_ cb
 have ybc:=ybb (by omega)
 obtain ⟨d1,hd1⟩:∃d1:Int,d1=yb.tdiv 11:=⟨_,rfl⟩
 have hd1b:0≤d1∧d1≤12:=by
  rw [hd1,Int.tdiv_eq_ediv_of_nonneg yba]
  omega
 have HD1:Hid (yb.tdiv 11=d1):=hideIt hd1.symm
 have ew1:IntKind.i64.wrap d1=d1:=IntWalk.i64_in _ (by omega)
 have ew2:IntKind.i64.wrap (ya - d1)=ya - d1:=IntWalk.i64_in _ (by omega)
 clear ybb hd1
 (try go_wp2_with fail)
 refine hK.out _ _ ?_ (fun hh3=>?_)
 ·(try dsimp only);(repeat with_reducible (first|exact gg|exact Chg.refl _ _|refine Chg.drew ?_|refine Chg.alloc ?_ _|refine Chg.setCell ?_ (by simp) _))
 clear hK K hh2
 try simp only [Act.put,List.setIfInBounds_toArray,List.set_cons_zero,List.set_cons_succ]
 refine regTk 8 hh3 ?_
 refine regTk 9 hh3 ?_
 refine regCall 12 (fun K hK=>?_)
 go_simp
 refine (l01Next_any (w0:=w) 2 HS.out).mono ?_
 rintro e v4 ⟨yc,rfl,yca,ycb,h_,c_⟩
 have cb:Chg [b] v3 v4:=c_
 have gg:Chg [b,w.heap.size] u3 v4:=gg.trans (cb.mono (by simp))
 replace HS:=hideIt h_
 replace R0:=hideIt (R0.out.chg cb NR.out)
 replace BD:=hideIt (BD.out.next cb (fun g hg=>.inl (by simp at hg;subst hg;have:=LB.out;omega)))
 clear h_ c_ cb
 have ycc:=ycb (by omega)
 clear ycb
 (try go_wp2_with fail)
 refine hK.out _ _ ?_ (fun hh4=>?_)
 ·(try dsimp only);(repeat with_reducible (first|exact gg|exact Chg.refl _ _|refine Chg.drew ?_|refine Chg.alloc ?_ _|refine Chg.setCell ?_ (by simp) _))
 clear hK K hh3
 try simp only [Act.put,List.setIfInBounds_toArray,List.set_cons_zero,List.set_cons_succ]
 refine regCall 14 (fun K hK=>?_)
 go_simp
 refine (l01Next_any (w0:=w) 24 HS.out).mono ?_
 rintro e v5 ⟨yd,rfl,yda,ydb,h_,c_⟩
 have cb:Chg [b] v4 v5:=c_
 have gg:Chg [b,w.heap.size] u3 v5:=gg.trans (cb.mono (by simp))
 replace HS:=hideIt h_
 replace R0:=hideIt (R0.out.chg cb NR.out)
 replace BD:=hideIt (BD.out.next cb (fun g hg=>.inl (by simp at hg;subst hg;have:=LB.out;omega)))
 clear h_ c_ cb
 have ydc:=ydb (by omega)
 clear ydb
 have f0:=R0.out.frozen
 have l0:=R0.out.lt
 have r0:=R0.out.cell 0
 have r1:=R0.out.cell 1
 have r2:=R0.out.cell 2
 have r3:=R0.out.cell 3
 have r4:=R0.out.cell 4
 simp at r0 r1 r2 r3 r4
 (try go_wp2_with fail)
 refine hK.out _ _ ?_ (fun hh5=>?_)
 ·(try dsimp only);(repeat with_reducible (first|exact gg|exact Chg.refl _ _|refine Chg.drew ?_|refine Chg.alloc ?_ _|refine Chg.setCell ?_ (by simp) _))
 clear hK K hh4
 try simp only [Act.put,List.setIfInBounds_toArray,List.set_cons_zero,List.set_cons_succ]
 refine regTk 15 hh5 ?_
 refine regTk 16 hh5 ?_
 refine regTk 17 hh5 ?_
 refine regCall 18 (fun K hK=>?_)
 go_simp
 (try go_wp2_with fail)
 refine hK.out _ _ ?_ (fun hh6=>?_)
 ·(try dsimp only);(repeat with_reducible (first|exact gg|exact Chg.refl _ _|refine Chg.drew ?_|refine Chg.alloc ?_ _|refine Chg.setCell ?_ (by simp) _))
 clear hK K hh5
 try simp only [Act.put,List.setIfInBounds_toArray,List.set_cons_zero,List.set_cons_succ]
 refine regTk 19 hh6 ?_
 refine regTk 20 hh6 ?_
 refine regTk 21 hh6 ?_
 refine regTk 22 hh6 ?_
 refine wpAnyH_done (by kernel_rfl) ?_ _
 clear hh6 LL
 go_wp2
 refine bodyPost_ret (by simp [*,results,Tryz.results30,go_sem];try rfl) rfl ?_
 exact ⟨A0,n0,A1,n1,A2,n2,A3,n3,A4,n4,cs,xs,ns,ps,ws,_,_,_,_,rfl,node_end HS.out.ge.2.1 BD.out (by repeat with_reducible (first|exact Chg.refl _ _|refine Chg.drew ?_|refine Chg.setCell ?_ (by simp) _)) (by have:=HB.out;have:=LB.out;omega)⟩
end Go.Proofs.YtlnpefiipdkafaaGreatDoor
