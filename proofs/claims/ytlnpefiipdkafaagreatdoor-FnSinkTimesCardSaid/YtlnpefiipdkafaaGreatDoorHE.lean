/-
  Contract of the program's test whether a cell is as its kind says.
-/
import Derived.Test.YtlnpefiipdkafaaGreatDoorGJ
import Derived.Test.YtlnpefiipdkafaaGreatDoorGH
import Derived.Test.YtlnpefiipdkafaaGreatDoorHD
namespace Go.Proofs.YtlnpefiipdkafaaGreatDoor
open Go.RowKit
theorem output_lit {v0 v1 v2 v3 v4 v5 v6:Value} {x:CellD} {m:Int} (w:World) (h:RCell w [v0,v1,v2,v3,v4,v5,v6] x) (hm:(x.pins.length:Int) - 1=m) :
  Calls Tryz.prog 128 #[.agg #[v0,v1,v2,v3,v4,v5,v6]] w fun e w'=>e=.returned (.int .i64 m)∧Grows w w':=by
 subst hm
 exact output_any w h
set_option maxHeartbeats 4000000 in
theorem isOfKind_any {v0 v1 v2 v3 v4 v5 v6:Value} {x:CellD} (w:World) (h:RCell w [v0,v1,v2,v3,v4,v5,v6] x) (hn:2≤x.pins.length) (hn5:x.pins.length≤5) :
  Calls Tryz.prog 112 #[.agg #[v0,v1,v2,v3,v4,v5,v6]] w fun e w'=>e=.returned (.bool (kindB x))∧Grows w w':=by
 have h0:=h
 obtain ⟨-,rfl,hp,ha,ht,-,-,-⟩:=h.parts
 obtain ⟨name,kind,pins,arcs,truth,leak,energy⟩:=x
 have pl:=RList.len hp
 have tl:=RList.len ht
 obtain ⟨A,np,rfl,-,-,hx⟩:=RList.form hp
 obtain ⟨B,na,rfl⟩:∃(D:Option Addr) (nd:Nat),v3=.slice D arcs.length nd:=by obtain ⟨D,c,e,-⟩:=RList.form ha;exact ⟨D,c,e⟩
 obtain ⟨T,nt,rfl⟩:∃(D:Option Addr) (nd:Nat),v4=.slice D truth.length nd:=by obtain ⟨D,c,e,-⟩:=RList.form ht;exact ⟨D,c,e⟩
 have g0:=(Grows.refl w).alloc (.cells #[v0,.int .i64 kind,.slice A pins.length np,.slice B arcs.length na,.slice T truth.length nt,v5,v6] 112)
 have S:=hideIt (Blk.new w 112 #[v0,.int .i64 kind,.slice A pins.length np,.slice B arcs.length na,.slice T truth.length nt,v5,v6])
 have HC0:=hideIt (h0.keep g0.keeps)
 have HT0:=hideIt (RInts.keep ht g0.keeps)
 have HX:=hideIt hx
 have G:=hideIt g0
 clear h h0 hp ha ht hx g0
 simp only at *
 go_enter Tryz.func112,Tryz.ntmps112
 go_wp2
 go_loopw [3,5,9] (fun c _ i wr=>∃k:Nat,k≤pins.length∧i=.int .i64 (k:Int)∧c=.int .i64 (clkN pins k:Int)∧Grows (w.alloc (.cells #[v0,.int .i64 kind,.slice A pins.length np,.slice B arcs.length na,.slice T truth.length nt,v5,v6] 112)) wr) (fun _ _ i _=>pins.length - (intOf i).toNat)
 case atStart=>exact ⟨0,by omega,rfl,rfl,Grows.refl _⟩
 case round =>
  obtain ⟨k,hk,rfl,rfl,hg⟩:=hrel
  have HG:=hideIt hg
  have GG:=hideIt (G.out.trans hg)
  have S2:=hideIt (S.out.grows hg)
  have cl:=clkN_le pins k
  clear hg
  have kl:=S2.out.lt
  have k0:wr.cell? ⟨w.heap.size,0,none⟩=some (v0):=S2.out.cell 0
  have k1:wr.cell? ⟨w.heap.size,1,none⟩=some (.int .i64 kind):=S2.out.cell 1
  have k2:wr.cell? ⟨w.heap.size,2,none⟩=some (.slice A pins.length np):=S2.out.cell 2
  have k3:wr.cell? ⟨w.heap.size,3,none⟩=some (.slice B arcs.length na):=S2.out.cell 3
  have k4:wr.cell? ⟨w.heap.size,4,none⟩=some (.slice T truth.length nt):=S2.out.cell 4
  have k5:wr.cell? ⟨w.heap.size,5,none⟩=some (v5):=S2.out.cell 5
  have k6:wr.cell? ⟨w.heap.size,6,none⟩=some (v6):=S2.out.cell 6
  by_cases hlt:k<pins.length
  ·obtain ⟨p,hp⟩:∃p,pins[k]?=some p:=⟨_,List.getElem?_eq_getElem hlt⟩
   obtain ⟨b,off,rfl,cs,hl1,hcs,hr⟩:=HX.out k p hp
   obtain ⟨d0,d1,d2,d3,rfl⟩:=list4 hl1
   obtain ⟨rfl,rfl,rfl,rfl,-⟩:=hr.parts
   have lift:=GG.out.keeps
   have kp0:wr.cell? ⟨b,off+k * 4,none⟩=some (.string p.name):=lift _ _ (by simpa using hcs 0 _ rfl)
   have kp1:wr.cell? ⟨b,off+k * 4+1,none⟩=some (.int .i64 p.dir):=lift _ _ (by simpa [Nat.add_assoc] using hcs 1 _ rfl)
   have kp2:wr.cell? ⟨b,off+k * 4+2,none⟩=some (.int .i64 p.cap):=lift _ _ (by simpa [Nat.add_assoc] using hcs 2 _ rfl)
   have kp3:wr.cell? ⟨b,off+k * 4+3,none⟩=some (.bool p.clock):=lift _ _ (by simpa [Nat.add_assoc] using hcs 3 _ rfl)
   have CS:=hideIt (clkN_succ hp)
   clear hcs hl1 hr hp lift
   cases hk0:p.clock
   ·have C1:Hid (clkN pins (k+1)=clkN pins k):=hideIt (by rw [CS.out,hk0];rfl)
    go_wp2
    go_roundw
    case rel=>exact ⟨k+1,by omega,by go_num,by rw [C1.out],HG.out.alloc _⟩
    case measure=>simp [intOf];omega
   ·have C1:Hid (clkN pins (k+1)=clkN pins k+1):=hideIt (by rw [CS.out,hk0];rfl)
    go_wp2
    go_roundw
    case rel=>exact ⟨k+1,by omega,by go_num,by rw [C1.out];simp,HG.out.alloc _⟩
    case measure=>simp [intOf];omega
  ·obtain rfl:k=pins.length:=by omega
   have HC:=hideIt (HC0.out.keep HG.out.keeps)
   have HT:=hideIt (RInts.keep HT0.out HG.out.keeps)
   have KB:Hid (kindB (⟨name,kind,pins,arcs,truth,leak,energy⟩:CellD)=kindB (⟨name,kind,pins,arcs,truth,leak,energy⟩:CellD)):=hideIt rfl
   generalize hcl:clkN pins pins.length=c at *
   have K0:∀w',Grows wr w'→w'.cell? ⟨w.heap.size,0,none⟩=some (v0)∧w'.cell? ⟨w.heap.size,1,none⟩=some (.int .i64 kind)∧w'.cell? ⟨w.heap.size,2,none⟩=some (.slice A pins.length np)∧w'.cell? ⟨w.heap.size,3,none⟩=some (.slice B arcs.length na)∧w'.cell? ⟨w.heap.size,4,none⟩=some (.slice T truth.length nt)∧w'.cell? ⟨w.heap.size,5,none⟩=some (v5)∧w'.cell? ⟨w.heap.size,6,none⟩=some (v6)∧Grows wr w':=fun w' G=>⟨(G.cells.1 _ _ S2.out.lt).trans (S2.out.cell 0),(G.cells.1 _ _ S2.out.lt).trans (S2.out.cell 1),(G.cells.1 _ _ S2.out.lt).trans (S2.out.cell 2),(G.cells.1 _ _ S2.out.lt).trans (S2.out.cell 3),(G.cells.1 _ _ S2.out.lt).trans (S2.out.cell 4),(G.cells.1 _ _ S2.out.lt).trans (S2.out.cell 5),(G.cells.1 _ _ S2.out.lt).trans (S2.out.cell 6),G⟩
   have HK:=hideIt K0
   clear K0 KB
   have gg:Grows wr wr:=Grows.refl _
   by_cases kk1:kind=1
   ·subst kk1
    by_cases c0:c=0
    rotate_left
    ·have c0':((c:Int)==0)=false:=by rw [beq_eq_false_iff_ne];omega
     have EP:Hid (kindB ⟨name,1,pins,arcs,truth,leak,energy⟩=false):=hideIt (by unfold kindB;simp only [hcl];simp [c0])
     clear hcl c0
     go_wp2
     go_quiet (fail)
     all_goals go_wp2
     all_goals go_ret
     all_goals exact ⟨ret_bool EP.out.symm,GG.out.trans (gg.drewN _)⟩
    subst c0
    have hpl:pins.length=2∨pins.length=3∨pins.length=4∨pins.length=5:=by omega
    rcases hpl with hpl|hpl|hpl|hpl
    ·have HN:=hideIt (show (pins.length:Int) - 1=1 by rw [hpl];rfl)
     have hwm:IntKind.i64.wrap 2=2:=by decide
     by_cases tz:truth.length=2
     rotate_left
     ·have tz':((truth.length:Int)==2)=false:=by rw [beq_eq_false_iff_ne];omega
      have EP:Hid (kindB ⟨name,1,pins,arcs,truth,leak,energy⟩=false):=hideIt (by unfold kindB;simp only [hcl];simp [hpl,tz])
      clear hcl tz hpl
      go_wp2
      refine wp_region_held_drew (S:=(fun w'=>w'.cell? ⟨w.heap.size,0,none⟩=some (v0)∧w'.cell? ⟨w.heap.size,1,none⟩=some (.int .i64 1)∧w'.cell? ⟨w.heap.size,2,none⟩=some (.slice A pins.length np)∧w'.cell? ⟨w.heap.size,3,none⟩=some (.slice B arcs.length na)∧w'.cell? ⟨w.heap.size,4,none⟩=some (.slice T truth.length nt)∧w'.cell? ⟨w.heap.size,5,none⟩=some (v5)∧w'.cell? ⟨w.heap.size,6,none⟩=some (v6)∧Grows wr w')) (by kernel_rfl) ?_ (fun hh0=>?_)
      ·(try dsimp only);exact HK.out _ gk
      refine regTk 0 hh0 ?_
      refine regTk 1 hh0 ?_
      refine regTk 2 hh0 ?_
      refine regTk 3 hh0 ?_
      refine regTk 4 hh0 ?_
      refine regTk 5 hh0 ?_
      refine regTk 6 hh0 ?_
      refine regCall 7 (fun K hK=>?_)
      go_simp
      refine (output_lit _ (HC.out.keep (Grows.keeps gk)) HN.out).mono ?_
      rintro e wx ⟨rfl,g⟩
      replace gg:=gg.gt g
      clear g
      (try go_wp2_with fail)
      refine hK.out _ _ ?_ (fun hh1=>?_)
      ·(try dsimp only);exact HK.out _ gk
      clear hK K hh0
      try simp only [Act.put,List.setIfInBounds_toArray,List.set_cons_zero,List.set_cons_succ]
      refine regTk 8 hh1 ?_
      refine regTk 9 hh1 ?_
      refine regTk 10 hh1 ?_
      refine regTk 11 hh1 ?_
      refine regSk 12 hh1 ?_
      refine regSk 13 hh1 ?_
      refine regSk 14 hh1 ?_
      refine regTk 15 hh1 ?_
      refine regTk 16 hh1 ?_
      refine wpAnyH_done (by kernel_rfl) ?_ _
      all_goals go_wp2
      all_goals go_ret
      all_goals exact ⟨ret_bool EP.out.symm,GG.out.trans gk⟩
     have tz':((truth.length:Int)==2)=true:=by rw [beq_iff_eq];omega
     obtain ⟨q,hq⟩:∃q,wiB truth 0 1=q:=⟨_,rfl⟩
     have EP:Hid (kindB ⟨name,1,pins,arcs,truth,leak,energy⟩=q):=hideIt (by unfold kindB;simp only [hcl];simp [hpl,tz,←hq,wiB])
     have F4:=hideIt hq
     clear hcl tz hq hpl
     go_wp2
     refine wp_region_held_drew (S:=(fun w'=>w'.cell? ⟨w.heap.size,0,none⟩=some (v0)∧w'.cell? ⟨w.heap.size,1,none⟩=some (.int .i64 1)∧w'.cell? ⟨w.heap.size,2,none⟩=some (.slice A pins.length np)∧w'.cell? ⟨w.heap.size,3,none⟩=some (.slice B arcs.length na)∧w'.cell? ⟨w.heap.size,4,none⟩=some (.slice T truth.length nt)∧w'.cell? ⟨w.heap.size,5,none⟩=some (v5)∧w'.cell? ⟨w.heap.size,6,none⟩=some (v6)∧Grows wr w')) (by kernel_rfl) ?_ (fun hh0=>?_)
     ·(try dsimp only);exact HK.out _ gk
     refine regTk 0 hh0 ?_
     refine regTk 1 hh0 ?_
     refine regTk 2 hh0 ?_
     refine regTk 3 hh0 ?_
     refine regTk 4 hh0 ?_
     refine regTk 5 hh0 ?_
     refine regTk 6 hh0 ?_
     refine regCall 7 (fun K hK=>?_)
     go_simp
     refine (output_lit _ (HC.out.keep (Grows.keeps gk)) HN.out).mono ?_
     rintro e wx ⟨rfl,g⟩
     replace gg:=gg.gt g
     clear g
     (try go_wp2_with fail)
     refine hK.out _ _ ?_ (fun hh1=>?_)
     ·(try dsimp only);exact HK.out _ gk
     clear hK K hh0
     try simp only [Act.put,List.setIfInBounds_toArray,List.set_cons_zero,List.set_cons_succ]
     refine regTk 8 hh1 ?_
     refine regTk 9 hh1 ?_
     refine regTk 10 hh1 ?_
     refine regTk 11 hh1 ?_
     refine regTk 12 hh1 ?_
     refine regTk 13 hh1 ?_
     refine regCall 14 (fun K hK=>?_)
     go_simp
     refine (areWithin_any 0 1 _ (RInts.keep HT.out (Grows.keeps gk))).mono ?_
     rintro e wx ⟨rfl,g⟩
     rw [F4.out]
     replace gg:=gg.gt g
     clear g
     (try go_wp2_with fail)
     refine hK.out _ _ ?_ (fun hh2=>?_)
     ·(try dsimp only);exact HK.out _ gk
     clear hK K hh1
     try simp only [Act.put,List.setIfInBounds_toArray,List.set_cons_zero,List.set_cons_succ]
     refine regTk 15 hh2 ?_
     refine regTk 16 hh2 ?_
     refine wpAnyH_done (by kernel_rfl) ?_ _
     all_goals go_wp2
     all_goals go_ret
     all_goals exact ⟨ret_bool EP.out.symm,GG.out.trans gk⟩
    ·have HN:=hideIt (show (pins.length:Int) - 1=2 by rw [hpl];rfl)
     have hwm:IntKind.i64.wrap 4=4:=by decide
     by_cases tz:truth.length=4
     rotate_left
     ·have tz':((truth.length:Int)==4)=false:=by rw [beq_eq_false_iff_ne];omega
      have EP:Hid (kindB ⟨name,1,pins,arcs,truth,leak,energy⟩=false):=hideIt (by unfold kindB;simp only [hcl];simp [hpl,tz])
      clear hcl tz hpl
      go_wp2
      refine wp_region_held_drew (S:=(fun w'=>w'.cell? ⟨w.heap.size,0,none⟩=some (v0)∧w'.cell? ⟨w.heap.size,1,none⟩=some (.int .i64 1)∧w'.cell? ⟨w.heap.size,2,none⟩=some (.slice A pins.length np)∧w'.cell? ⟨w.heap.size,3,none⟩=some (.slice B arcs.length na)∧w'.cell? ⟨w.heap.size,4,none⟩=some (.slice T truth.length nt)∧w'.cell? ⟨w.heap.size,5,none⟩=some (v5)∧w'.cell? ⟨w.heap.size,6,none⟩=some (v6)∧Grows wr w')) (by kernel_rfl) ?_ (fun hh0=>?_)
      ·(try dsimp only);exact HK.out _ gk
      refine regTk 0 hh0 ?_
      refine regTk 1 hh0 ?_
      refine regTk 2 hh0 ?_
      refine regTk 3 hh0 ?_
      refine regTk 4 hh0 ?_
      refine regTk 5 hh0 ?_
      refine regTk 6 hh0 ?_
      refine regCall 7 (fun K hK=>?_)
      go_simp
      refine (output_lit _ (HC.out.keep (Grows.keeps gk)) HN.out).mono ?_
      rintro e wx ⟨rfl,g⟩
      replace gg:=gg.gt g
      clear g
      (try go_wp2_with fail)
      refine hK.out _ _ ?_ (fun hh1=>?_)
      ·(try dsimp only);exact HK.out _ gk
      clear hK K hh0
      try simp only [Act.put,List.setIfInBounds_toArray,List.set_cons_zero,List.set_cons_succ]
      refine regTk 8 hh1 ?_
      refine regTk 9 hh1 ?_
      refine regTk 10 hh1 ?_
      refine regTk 11 hh1 ?_
      refine regSk 12 hh1 ?_
      refine regSk 13 hh1 ?_
      refine regSk 14 hh1 ?_
      refine regTk 15 hh1 ?_
      refine regTk 16 hh1 ?_
      refine wpAnyH_done (by kernel_rfl) ?_ _
      all_goals go_wp2
      all_goals go_ret
      all_goals exact ⟨ret_bool EP.out.symm,GG.out.trans gk⟩
     have tz':((truth.length:Int)==4)=true:=by rw [beq_iff_eq];omega
     obtain ⟨q,hq⟩:∃q,wiB truth 0 1=q:=⟨_,rfl⟩
     have EP:Hid (kindB ⟨name,1,pins,arcs,truth,leak,energy⟩=q):=hideIt (by unfold kindB;simp only [hcl];simp [hpl,tz,←hq,wiB])
     have F4:=hideIt hq
     clear hcl tz hq hpl
     go_wp2
     refine wp_region_held_drew (S:=(fun w'=>w'.cell? ⟨w.heap.size,0,none⟩=some (v0)∧w'.cell? ⟨w.heap.size,1,none⟩=some (.int .i64 1)∧w'.cell? ⟨w.heap.size,2,none⟩=some (.slice A pins.length np)∧w'.cell? ⟨w.heap.size,3,none⟩=some (.slice B arcs.length na)∧w'.cell? ⟨w.heap.size,4,none⟩=some (.slice T truth.length nt)∧w'.cell? ⟨w.heap.size,5,none⟩=some (v5)∧w'.cell? ⟨w.heap.size,6,none⟩=some (v6)∧Grows wr w')) (by kernel_rfl) ?_ (fun hh0=>?_)
     ·(try dsimp only);exact HK.out _ gk
     refine regTk 0 hh0 ?_
     refine regTk 1 hh0 ?_
     refine regTk 2 hh0 ?_
     refine regTk 3 hh0 ?_
     refine regTk 4 hh0 ?_
     refine regTk 5 hh0 ?_
     refine regTk 6 hh0 ?_
     refine regCall 7 (fun K hK=>?_)
     go_simp
     refine (output_lit _ (HC.out.keep (Grows.keeps gk)) HN.out).mono ?_
     rintro e wx ⟨rfl,g⟩
     replace gg:=gg.gt g
     clear g
     (try go_wp2_with fail)
     refine hK.out _ _ ?_ (fun hh1=>?_)
     ·(try dsimp only);exact HK.out _ gk
     clear hK K hh0
     try simp only [Act.put,List.setIfInBounds_toArray,List.set_cons_zero,List.set_cons_succ]
     refine regTk 8 hh1 ?_
     refine regTk 9 hh1 ?_
     refine regTk 10 hh1 ?_
     refine regTk 11 hh1 ?_
     refine regTk 12 hh1 ?_
     refine regTk 13 hh1 ?_
     refine regCall 14 (fun K hK=>?_)
     go_simp
     refine (areWithin_any 0 1 _ (RInts.keep HT.out (Grows.keeps gk))).mono ?_
     rintro e wx ⟨rfl,g⟩
     rw [F4.out]
     replace gg:=gg.gt g
     clear g
     (try go_wp2_with fail)
     refine hK.out _ _ ?_ (fun hh2=>?_)
     ·(try dsimp only);exact HK.out _ gk
     clear hK K hh1
     try simp only [Act.put,List.setIfInBounds_toArray,List.set_cons_zero,List.set_cons_succ]
     refine regTk 15 hh2 ?_
     refine regTk 16 hh2 ?_
     refine wpAnyH_done (by kernel_rfl) ?_ _
     all_goals go_wp2
     all_goals go_ret
     all_goals exact ⟨ret_bool EP.out.symm,GG.out.trans gk⟩
    ·have HN:=hideIt (show (pins.length:Int) - 1=3 by rw [hpl];rfl)
     have hwm:IntKind.i64.wrap 8=8:=by decide
     by_cases tz:truth.length=8
     rotate_left
     ·have tz':((truth.length:Int)==8)=false:=by rw [beq_eq_false_iff_ne];omega
      have EP:Hid (kindB ⟨name,1,pins,arcs,truth,leak,energy⟩=false):=hideIt (by unfold kindB;simp only [hcl];simp [hpl,tz])
      clear hcl tz hpl
      go_wp2
      refine wp_region_held_drew (S:=(fun w'=>w'.cell? ⟨w.heap.size,0,none⟩=some (v0)∧w'.cell? ⟨w.heap.size,1,none⟩=some (.int .i64 1)∧w'.cell? ⟨w.heap.size,2,none⟩=some (.slice A pins.length np)∧w'.cell? ⟨w.heap.size,3,none⟩=some (.slice B arcs.length na)∧w'.cell? ⟨w.heap.size,4,none⟩=some (.slice T truth.length nt)∧w'.cell? ⟨w.heap.size,5,none⟩=some (v5)∧w'.cell? ⟨w.heap.size,6,none⟩=some (v6)∧Grows wr w')) (by kernel_rfl) ?_ (fun hh0=>?_)
      ·(try dsimp only);exact HK.out _ gk
      refine regTk 0 hh0 ?_
      refine regTk 1 hh0 ?_
      refine regTk 2 hh0 ?_
      refine regTk 3 hh0 ?_
      refine regTk 4 hh0 ?_
      refine regTk 5 hh0 ?_
      refine regTk 6 hh0 ?_
      refine regCall 7 (fun K hK=>?_)
      go_simp
      refine (output_lit _ (HC.out.keep (Grows.keeps gk)) HN.out).mono ?_
      rintro e wx ⟨rfl,g⟩
      replace gg:=gg.gt g
      clear g
      (try go_wp2_with fail)
      refine hK.out _ _ ?_ (fun hh1=>?_)
      ·(try dsimp only);exact HK.out _ gk
      clear hK K hh0
      try simp only [Act.put,List.setIfInBounds_toArray,List.set_cons_zero,List.set_cons_succ]
      refine regTk 8 hh1 ?_
      refine regTk 9 hh1 ?_
      refine regTk 10 hh1 ?_
      refine regTk 11 hh1 ?_
      refine regSk 12 hh1 ?_
      refine regSk 13 hh1 ?_
      refine regSk 14 hh1 ?_
      refine regTk 15 hh1 ?_
      refine regTk 16 hh1 ?_
      refine wpAnyH_done (by kernel_rfl) ?_ _
      all_goals go_wp2
      all_goals go_ret
      all_goals exact ⟨ret_bool EP.out.symm,GG.out.trans gk⟩
     have tz':((truth.length:Int)==8)=true:=by rw [beq_iff_eq];omega
     obtain ⟨q,hq⟩:∃q,wiB truth 0 1=q:=⟨_,rfl⟩
     have EP:Hid (kindB ⟨name,1,pins,arcs,truth,leak,energy⟩=q):=hideIt (by unfold kindB;simp only [hcl];simp [hpl,tz,←hq,wiB])
     have F4:=hideIt hq
     clear hcl tz hq hpl
     go_wp2
     refine wp_region_held_drew (S:=(fun w'=>w'.cell? ⟨w.heap.size,0,none⟩=some (v0)∧w'.cell? ⟨w.heap.size,1,none⟩=some (.int .i64 1)∧w'.cell? ⟨w.heap.size,2,none⟩=some (.slice A pins.length np)∧w'.cell? ⟨w.heap.size,3,none⟩=some (.slice B arcs.length na)∧w'.cell? ⟨w.heap.size,4,none⟩=some (.slice T truth.length nt)∧w'.cell? ⟨w.heap.size,5,none⟩=some (v5)∧w'.cell? ⟨w.heap.size,6,none⟩=some (v6)∧Grows wr w')) (by kernel_rfl) ?_ (fun hh0=>?_)
     ·(try dsimp only);exact HK.out _ gk
     refine regTk 0 hh0 ?_
     refine regTk 1 hh0 ?_
     refine regTk 2 hh0 ?_
     refine regTk 3 hh0 ?_
     refine regTk 4 hh0 ?_
     refine regTk 5 hh0 ?_
     refine regTk 6 hh0 ?_
     refine regCall 7 (fun K hK=>?_)
     go_simp
     refine (output_lit _ (HC.out.keep (Grows.keeps gk)) HN.out).mono ?_
     rintro e wx ⟨rfl,g⟩
     replace gg:=gg.gt g
     clear g
     (try go_wp2_with fail)
     refine hK.out _ _ ?_ (fun hh1=>?_)
     ·(try dsimp only);exact HK.out _ gk
     clear hK K hh0
     try simp only [Act.put,List.setIfInBounds_toArray,List.set_cons_zero,List.set_cons_succ]
     refine regTk 8 hh1 ?_
     refine regTk 9 hh1 ?_
     refine regTk 10 hh1 ?_
     refine regTk 11 hh1 ?_
     refine regTk 12 hh1 ?_
     refine regTk 13 hh1 ?_
     refine regCall 14 (fun K hK=>?_)
     go_simp
     refine (areWithin_any 0 1 _ (RInts.keep HT.out (Grows.keeps gk))).mono ?_
     rintro e wx ⟨rfl,g⟩
     rw [F4.out]
     replace gg:=gg.gt g
     clear g
     (try go_wp2_with fail)
     refine hK.out _ _ ?_ (fun hh2=>?_)
     ·(try dsimp only);exact HK.out _ gk
     clear hK K hh1
     try simp only [Act.put,List.setIfInBounds_toArray,List.set_cons_zero,List.set_cons_succ]
     refine regTk 15 hh2 ?_
     refine regTk 16 hh2 ?_
     refine wpAnyH_done (by kernel_rfl) ?_ _
     all_goals go_wp2
     all_goals go_ret
     all_goals exact ⟨ret_bool EP.out.symm,GG.out.trans gk⟩
    ·have HN:=hideIt (show (pins.length:Int) - 1=4 by rw [hpl];rfl)
     have hwm:IntKind.i64.wrap 16=16:=by decide
     by_cases tz:truth.length=16
     rotate_left
     ·have tz':((truth.length:Int)==16)=false:=by rw [beq_eq_false_iff_ne];omega
      have EP:Hid (kindB ⟨name,1,pins,arcs,truth,leak,energy⟩=false):=hideIt (by unfold kindB;simp only [hcl];simp [hpl,tz])
      clear hcl tz hpl
      go_wp2
      refine wp_region_held_drew (S:=(fun w'=>w'.cell? ⟨w.heap.size,0,none⟩=some (v0)∧w'.cell? ⟨w.heap.size,1,none⟩=some (.int .i64 1)∧w'.cell? ⟨w.heap.size,2,none⟩=some (.slice A pins.length np)∧w'.cell? ⟨w.heap.size,3,none⟩=some (.slice B arcs.length na)∧w'.cell? ⟨w.heap.size,4,none⟩=some (.slice T truth.length nt)∧w'.cell? ⟨w.heap.size,5,none⟩=some (v5)∧w'.cell? ⟨w.heap.size,6,none⟩=some (v6)∧Grows wr w')) (by kernel_rfl) ?_ (fun hh0=>?_)
      ·(try dsimp only);exact HK.out _ gk
      refine regTk 0 hh0 ?_
      refine regTk 1 hh0 ?_
      refine regTk 2 hh0 ?_
      refine regTk 3 hh0 ?_
      refine regTk 4 hh0 ?_
      refine regTk 5 hh0 ?_
      refine regTk 6 hh0 ?_
      refine regCall 7 (fun K hK=>?_)
      go_simp
      refine (output_lit _ (HC.out.keep (Grows.keeps gk)) HN.out).mono ?_
      rintro e wx ⟨rfl,g⟩
      replace gg:=gg.gt g
      clear g
      (try go_wp2_with fail)
      refine hK.out _ _ ?_ (fun hh1=>?_)
      ·(try dsimp only);exact HK.out _ gk
      clear hK K hh0
      try simp only [Act.put,List.setIfInBounds_toArray,List.set_cons_zero,List.set_cons_succ]
      refine regTk 8 hh1 ?_
      refine regTk 9 hh1 ?_
      refine regTk 10 hh1 ?_
      refine regTk 11 hh1 ?_
      refine regSk 12 hh1 ?_
      refine regSk 13 hh1 ?_
      refine regSk 14 hh1 ?_
      refine regTk 15 hh1 ?_
      refine regTk 16 hh1 ?_
      refine wpAnyH_done (by kernel_rfl) ?_ _
      all_goals go_wp2
      all_goals go_ret
      all_goals exact ⟨ret_bool EP.out.symm,GG.out.trans gk⟩
     have tz':((truth.length:Int)==16)=true:=by rw [beq_iff_eq];omega
     obtain ⟨q,hq⟩:∃q,wiB truth 0 1=q:=⟨_,rfl⟩
     have EP:Hid (kindB ⟨name,1,pins,arcs,truth,leak,energy⟩=q):=hideIt (by unfold kindB;simp only [hcl];simp [hpl,tz,←hq,wiB])
     have F4:=hideIt hq
     clear hcl tz hq hpl
     go_wp2
     refine wp_region_held_drew (S:=(fun w'=>w'.cell? ⟨w.heap.size,0,none⟩=some (v0)∧w'.cell? ⟨w.heap.size,1,none⟩=some (.int .i64 1)∧w'.cell? ⟨w.heap.size,2,none⟩=some (.slice A pins.length np)∧w'.cell? ⟨w.heap.size,3,none⟩=some (.slice B arcs.length na)∧w'.cell? ⟨w.heap.size,4,none⟩=some (.slice T truth.length nt)∧w'.cell? ⟨w.heap.size,5,none⟩=some (v5)∧w'.cell? ⟨w.heap.size,6,none⟩=some (v6)∧Grows wr w')) (by kernel_rfl) ?_ (fun hh0=>?_)
     ·(try dsimp only);exact HK.out _ gk
     refine regTk 0 hh0 ?_
     refine regTk 1 hh0 ?_
     refine regTk 2 hh0 ?_
     refine regTk 3 hh0 ?_
     refine regTk 4 hh0 ?_
     refine regTk 5 hh0 ?_
     refine regTk 6 hh0 ?_
     refine regCall 7 (fun K hK=>?_)
     go_simp
     refine (output_lit _ (HC.out.keep (Grows.keeps gk)) HN.out).mono ?_
     rintro e wx ⟨rfl,g⟩
     replace gg:=gg.gt g
     clear g
     (try go_wp2_with fail)
     refine hK.out _ _ ?_ (fun hh1=>?_)
     ·(try dsimp only);exact HK.out _ gk
     clear hK K hh0
     try simp only [Act.put,List.setIfInBounds_toArray,List.set_cons_zero,List.set_cons_succ]
     refine regTk 8 hh1 ?_
     refine regTk 9 hh1 ?_
     refine regTk 10 hh1 ?_
     refine regTk 11 hh1 ?_
     refine regTk 12 hh1 ?_
     refine regTk 13 hh1 ?_
     refine regCall 14 (fun K hK=>?_)
     go_simp
     refine (areWithin_any 0 1 _ (RInts.keep HT.out (Grows.keeps gk))).mono ?_
     rintro e wx ⟨rfl,g⟩
     rw [F4.out]
     replace gg:=gg.gt g
     clear g
     (try go_wp2_with fail)
     refine hK.out _ _ ?_ (fun hh2=>?_)
     ·(try dsimp only);exact HK.out _ gk
     clear hK K hh1
     try simp only [Act.put,List.setIfInBounds_toArray,List.set_cons_zero,List.set_cons_succ]
     refine regTk 15 hh2 ?_
     refine regTk 16 hh2 ?_
     refine wpAnyH_done (by kernel_rfl) ?_ _
     all_goals go_wp2
     all_goals go_ret
     all_goals exact ⟨ret_bool EP.out.symm,GG.out.trans gk⟩
   by_cases kk2:kind=2
   ·subst kk2
    by_cases c0:c=1
    rotate_left
    ·have c0':((c:Int)==1)=false:=by rw [beq_eq_false_iff_ne];omega
     have EP:Hid (kindB ⟨name,2,pins,arcs,truth,leak,energy⟩=false):=hideIt (by unfold kindB;simp only [hcl];simp [c0])
     clear hcl c0
     go_wp2
     go_quiet (fail)
     all_goals go_wp2
     all_goals go_ret
     all_goals exact ⟨ret_bool EP.out.symm,GG.out.trans (gg.drewN _)⟩
    subst c0
    by_cases tz:truth.length=0
    rotate_left
    ·have tz':((truth.length:Int)==0)=false:=by rw [beq_eq_false_iff_ne];omega
     have EP:Hid (kindB ⟨name,2,pins,arcs,truth,leak,energy⟩=false):=hideIt (by unfold kindB;simp only [hcl];simp [tz])
     clear hcl tz
     go_wp2
     go_quiet (fail)
     all_goals go_wp2
     all_goals go_ret
     all_goals exact ⟨ret_bool EP.out.symm,GG.out.trans (gg.drewN _)⟩
    have tz':((truth.length:Int)==0)=true:=by rw [beq_iff_eq];omega
    cases h1:hasB arcs 1
    rotate_left
    ·skip
     have EP:Hid (kindB ⟨name,2,pins,arcs,truth,leak,energy⟩=false):=hideIt (by unfold kindB;simp only [hcl];simp [h1])
     have F1:=hideIt h1
     clear hcl tz h1
     go_wp2
     refine wp_region_held_drew (S:=(fun w'=>w'.cell? ⟨w.heap.size,0,none⟩=some (v0)∧w'.cell? ⟨w.heap.size,1,none⟩=some (.int .i64 2)∧w'.cell? ⟨w.heap.size,2,none⟩=some (.slice A pins.length np)∧w'.cell? ⟨w.heap.size,3,none⟩=some (.slice B arcs.length na)∧w'.cell? ⟨w.heap.size,4,none⟩=some (.slice T truth.length nt)∧w'.cell? ⟨w.heap.size,5,none⟩=some (v5)∧w'.cell? ⟨w.heap.size,6,none⟩=some (v6)∧Grows wr w')) (by kernel_rfl) ?_ (fun hh0=>?_)
     ·(try dsimp only);exact HK.out _ gk
     refine regTk 0 hh0 ?_
     refine regTk 1 hh0 ?_
     refine regTk 2 hh0 ?_
     refine regTk 3 hh0 ?_
     refine regTk 4 hh0 ?_
     refine regTk 5 hh0 ?_
     refine regTk 6 hh0 ?_
     refine regTk 7 hh0 ?_
     refine regTk 8 hh0 ?_
     refine regTk 9 hh0 ?_
     refine regCall 10 (fun K hK=>?_)
     go_simp
     refine (has_any _ _ (HC.out.keep (Grows.keeps gk))).mono ?_
     rintro e wx ⟨rfl,g⟩
     rw [F1.out]
     replace gg:=gg.gt g
     clear g
     (try go_wp2_with fail)
     refine hK.out _ _ ?_ (fun hh1=>?_)
     ·(try dsimp only);exact HK.out _ gk
     clear hK K hh0
     try simp only [Act.put,List.setIfInBounds_toArray,List.set_cons_zero,List.set_cons_succ]
     refine regTk 11 hh1 ?_
     refine regTk 12 hh1 ?_
     refine regTk 13 hh1 ?_
     refine regSk 14 hh1 ?_
     refine regSk 15 hh1 ?_
     refine regSk 16 hh1 ?_
     refine regSk 17 hh1 ?_
     refine regSk 18 hh1 ?_
     refine regTk 19 hh1 ?_
     refine regTk 20 hh1 ?_
     refine wpAnyH_done (by kernel_rfl) ?_ _
     all_goals go_wp2
     all_goals go_ret
     all_goals exact ⟨ret_bool EP.out.symm,GG.out.trans gk⟩
    obtain ⟨q2,h2⟩:∃q,hasB arcs 2=q:=⟨_,rfl⟩
    obtain ⟨q3,h3⟩:∃q,hasB arcs 3=q:=⟨_,rfl⟩
    have EP:Hid (kindB ⟨name,2,pins,arcs,truth,leak,energy⟩=(q2 != q3)):=hideIt (by unfold kindB;simp only [hcl];simp [tz,h1,h2,h3])
    have F1:=hideIt h1
    have F2:=hideIt h2
    have F3:=hideIt h3
    clear hcl tz h1 h2 h3
    go_wp2
    refine wp_region_held_drew (S:=(fun w'=>w'.cell? ⟨w.heap.size,0,none⟩=some (v0)∧w'.cell? ⟨w.heap.size,1,none⟩=some (.int .i64 2)∧w'.cell? ⟨w.heap.size,2,none⟩=some (.slice A pins.length np)∧w'.cell? ⟨w.heap.size,3,none⟩=some (.slice B arcs.length na)∧w'.cell? ⟨w.heap.size,4,none⟩=some (.slice T truth.length nt)∧w'.cell? ⟨w.heap.size,5,none⟩=some (v5)∧w'.cell? ⟨w.heap.size,6,none⟩=some (v6)∧Grows wr w')) (by kernel_rfl) ?_ (fun hh0=>?_)
    ·(try dsimp only);exact HK.out _ gk
    refine regTk 0 hh0 ?_
    refine regTk 1 hh0 ?_
    refine regTk 2 hh0 ?_
    refine regTk 3 hh0 ?_
    refine regTk 4 hh0 ?_
    refine regTk 5 hh0 ?_
    refine regTk 6 hh0 ?_
    refine regTk 7 hh0 ?_
    refine regTk 8 hh0 ?_
    refine regTk 9 hh0 ?_
    refine regCall 10 (fun K hK=>?_)
    go_simp
    refine (has_any _ _ (HC.out.keep (Grows.keeps gk))).mono ?_
    rintro e wx ⟨rfl,g⟩
    rw [F1.out]
    replace gg:=gg.gt g
    clear g
    (try go_wp2_with fail)
    refine hK.out _ _ ?_ (fun hh1=>?_)
    ·(try dsimp only);exact HK.out _ gk
    clear hK K hh0
    try simp only [Act.put,List.setIfInBounds_toArray,List.set_cons_zero,List.set_cons_succ]
    refine regTk 11 hh1 ?_
    refine regTk 12 hh1 ?_
    refine regTk 13 hh1 ?_
    refine regTk 14 hh1 ?_
    refine regTk 16 hh1 ?_
    refine regCall 15 (fun K hK=>?_)
    go_simp
    refine (has_any _ _ (HC.out.keep (Grows.keeps gk))).mono ?_
    rintro e wx ⟨rfl,g⟩
    rw [F2.out]
    replace gg:=gg.gt g
    clear g
    (try go_wp2_with fail)
    refine hK.out _ _ ?_ (fun hh2=>?_)
    ·(try dsimp only);exact HK.out _ gk
    clear hK K hh1
    try simp only [Act.put,List.setIfInBounds_toArray,List.set_cons_zero,List.set_cons_succ]
    refine regCall 17 (fun K hK=>?_)
    go_simp
    refine (has_any _ _ (HC.out.keep (Grows.keeps gk))).mono ?_
    rintro e wx ⟨rfl,g⟩
    rw [F3.out]
    replace gg:=gg.gt g
    clear g
    (try go_wp2_with fail)
    refine hK.out _ _ ?_ (fun hh3=>?_)
    ·(try dsimp only);exact HK.out _ gk
    clear hK K hh2
    try simp only [Act.put,List.setIfInBounds_toArray,List.set_cons_zero,List.set_cons_succ]
    refine regTk 18 hh3 ?_
    refine regTk 19 hh3 ?_
    refine regTk 20 hh3 ?_
    refine wpAnyH_done (by kernel_rfl) ?_ _
    all_goals go_wp2
    all_goals go_ret
    all_goals exact ⟨ret_bool EP.out.symm,GG.out.trans gk⟩
   by_cases kk3:kind=3
   ·subst kk3
    by_cases c0:c=1
    rotate_left
    ·have c0':((c:Int)==1)=false:=by rw [beq_eq_false_iff_ne];omega
     have EP:Hid (kindB ⟨name,3,pins,arcs,truth,leak,energy⟩=false):=hideIt (by unfold kindB;simp only [hcl];simp [c0])
     clear hcl c0
     go_wp2
     go_ret
     exact ⟨ret_bool EP.out.symm,GG.out.trans gk⟩
    subst c0
    by_cases tz:truth.length=0
    rotate_left
    ·have tz':((truth.length:Int)==0)=false:=by rw [beq_eq_false_iff_ne];omega
     have EP:Hid (kindB ⟨name,3,pins,arcs,truth,leak,energy⟩=false):=hideIt (by unfold kindB;simp only [hcl];simp [tz])
     clear hcl tz
     go_wp2
     go_ret
     exact ⟨ret_bool EP.out.symm,GG.out.trans gk⟩
    have tz':((truth.length:Int)==0)=true:=by rw [beq_iff_eq];omega
    cases h1:hasB arcs 1
    ·skip
     have EP:Hid (kindB ⟨name,3,pins,arcs,truth,leak,energy⟩=false):=hideIt (by unfold kindB;simp only [hcl];simp [h1])
     have F1:=hideIt h1
     clear hcl tz h1
     go_wp2_with fail
     refine (has_any _ _ (HC.out.keep (Grows.keeps gk))).mono ?_
     rintro e w1 ⟨rfl,g⟩
     rw [F1.out]
     replace gg:=gg.gt g
     clear g
     obtain ⟨y_0,y_1,y_2,y_3,y_4,y_5,y_6,-⟩:=HK.out _ gg
     have yl1:w.heap.size<w1.heap.size:=Nat.lt_of_lt_of_le S2.out.lt gg.size
     go_wp2
     go_ret
     exact ⟨ret_bool EP.out.symm,GG.out.trans gk⟩
    cases h2:hasB arcs 2
    ·skip
     have EP:Hid (kindB ⟨name,3,pins,arcs,truth,leak,energy⟩=false):=hideIt (by unfold kindB;simp only [hcl];simp [h2])
     have F1:=hideIt h1
     have F2:=hideIt h2
     clear hcl tz h1 h2
     go_wp2_with fail
     refine (has_any _ _ (HC.out.keep (Grows.keeps gk))).mono ?_
     rintro e w1 ⟨rfl,g⟩
     rw [F1.out]
     replace gg:=gg.gt g
     clear g
     obtain ⟨y_0,y_1,y_2,y_3,y_4,y_5,y_6,-⟩:=HK.out _ gg
     have yl1:w.heap.size<w1.heap.size:=Nat.lt_of_lt_of_le S2.out.lt gg.size
     go_wp2_with fail
     refine (has_any _ _ (HC.out.keep (Grows.keeps gk))).mono ?_
     rintro e w2 ⟨rfl,g⟩
     rw [F2.out]
     replace gg:=gg.gt g
     clear g
     obtain ⟨y_0,y_1,y_2,y_3,y_4,y_5,y_6,-⟩:=HK.out _ gg
     have yl2:w.heap.size<w2.heap.size:=Nat.lt_of_lt_of_le S2.out.lt gg.size
     go_wp2
     go_ret
     exact ⟨ret_bool EP.out.symm,GG.out.trans gk⟩
    cases h3:hasB arcs 3
    ·skip
     have EP:Hid (kindB ⟨name,3,pins,arcs,truth,leak,energy⟩=true):=hideIt (by unfold kindB;simp only [hcl];simp [tz,h1,h2,h3])
     have F1:=hideIt h1
     have F2:=hideIt h2
     have F3:=hideIt h3
     clear hcl tz h1 h2 h3
     go_wp2_with fail
     refine (has_any _ _ (HC.out.keep (Grows.keeps gk))).mono ?_
     rintro e w1 ⟨rfl,g⟩
     rw [F1.out]
     replace gg:=gg.gt g
     clear g
     obtain ⟨y_0,y_1,y_2,y_3,y_4,y_5,y_6,-⟩:=HK.out _ gg
     have yl1:w.heap.size<w1.heap.size:=Nat.lt_of_lt_of_le S2.out.lt gg.size
     go_wp2_with fail
     refine (has_any _ _ (HC.out.keep (Grows.keeps gk))).mono ?_
     rintro e w2 ⟨rfl,g⟩
     rw [F2.out]
     replace gg:=gg.gt g
     clear g
     obtain ⟨y_0,y_1,y_2,y_3,y_4,y_5,y_6,-⟩:=HK.out _ gg
     have yl2:w.heap.size<w2.heap.size:=Nat.lt_of_lt_of_le S2.out.lt gg.size
     go_wp2_with fail
     refine (has_any _ _ (HC.out.keep (Grows.keeps gk))).mono ?_
     rintro e w3 ⟨rfl,g⟩
     rw [F3.out]
     replace gg:=gg.gt g
     clear g
     obtain ⟨y_0,y_1,y_2,y_3,y_4,y_5,y_6,-⟩:=HK.out _ gg
     have yl3:w.heap.size<w3.heap.size:=Nat.lt_of_lt_of_le S2.out.lt gg.size
     go_wp2
     go_ret
     exact ⟨ret_bool EP.out.symm,GG.out.trans gk⟩
    ·skip
     have EP:Hid (kindB ⟨name,3,pins,arcs,truth,leak,energy⟩=false):=hideIt (by unfold kindB;simp only [hcl];simp [h3])
     have F1:=hideIt h1
     have F2:=hideIt h2
     have F3:=hideIt h3
     clear hcl tz h1 h2 h3
     go_wp2_with fail
     refine (has_any _ _ (HC.out.keep (Grows.keeps gk))).mono ?_
     rintro e w1 ⟨rfl,g⟩
     rw [F1.out]
     replace gg:=gg.gt g
     clear g
     obtain ⟨y_0,y_1,y_2,y_3,y_4,y_5,y_6,-⟩:=HK.out _ gg
     have yl1:w.heap.size<w1.heap.size:=Nat.lt_of_lt_of_le S2.out.lt gg.size
     go_wp2_with fail
     refine (has_any _ _ (HC.out.keep (Grows.keeps gk))).mono ?_
     rintro e w2 ⟨rfl,g⟩
     rw [F2.out]
     replace gg:=gg.gt g
     clear g
     obtain ⟨y_0,y_1,y_2,y_3,y_4,y_5,y_6,-⟩:=HK.out _ gg
     have yl2:w.heap.size<w2.heap.size:=Nat.lt_of_lt_of_le S2.out.lt gg.size
     go_wp2_with fail
     refine (has_any _ _ (HC.out.keep (Grows.keeps gk))).mono ?_
     rintro e w3 ⟨rfl,g⟩
     rw [F3.out]
     replace gg:=gg.gt g
     clear g
     obtain ⟨y_0,y_1,y_2,y_3,y_4,y_5,y_6,-⟩:=HK.out _ gg
     have yl3:w.heap.size<w3.heap.size:=Nat.lt_of_lt_of_le S2.out.lt gg.size
     go_wp2
     go_ret
     exact ⟨ret_bool EP.out.symm,GG.out.trans gk⟩
   have EP:Hid (kindB ⟨name,kind,pins,arcs,truth,leak,energy⟩=false):=hideIt (by unfold kindB;simp [kk1,kk2,kk3])
   clear hcl
   go_wp2
   go_ret
   exact ⟨ret_bool EP.out.symm,GG.out⟩
end Go.Proofs.YtlnpefiipdkafaaGreatDoor
/-
  Contract of the program's test of an arc.
-/
namespace Go.Proofs.YtlnpefiipdkafaaGreatDoor
open Go.RowKit
theorem isArc_any {v0 v1 v2 v3 v4 v5 v6 u0 u1 u2 u3 u4 u5:Value} {x:CellD} {a:ArcD} (w:World) (h:RCell w [v0,v1,v2,v3,v4,v5,v6] x) (ha:RArc w [u0,u1,u2,u3,u4,u5] a) :
  Calls Tryz.prog 125 #[.agg #[v0,v1,v2,v3,v4,v5,v6],.agg #[u0,u1,u2,u3,u4,u5]] w fun e w'=>e=.returned (.bool (iArcB x.pins a))∧Grows w w':=by
 obtain ⟨rfl,rfl,rfl,rfl,hd,hs⟩:=ha.parts
 obtain ⟨kind,src,dst,sense,delay,slew⟩:=a
 obtain ⟨A,n0,rfl⟩:∃(A:Option Addr) (n0:Nat),v2=.slice A x.pins.length n0:=by obtain ⟨D,c,e,-⟩:=RList.form h.parts.2.2.1;exact ⟨D,c,e⟩
 obtain ⟨D,nd,rfl⟩:∃(D:Option Addr) (nd:Nat),u4=.slice D delay.length nd:=by obtain ⟨D,c,e,-⟩:=RList.form hd;exact ⟨D,c,e⟩
 obtain ⟨E,ne,rfl⟩:∃(E:Option Addr) (ne:Nat),u5=.slice E slew.length ne:=by obtain ⟨D,c,e,-⟩:=RList.form hs;exact ⟨D,c,e⟩
 by_cases hk:kind=4∨kind=5
 ·exact isArc_chk w h hd hs hk
 ·exact isArc_oth w h hd hs hk
end Go.Proofs.YtlnpefiipdkafaaGreatDoor
/-
  Contract of the program's test of all arcs of a cell.
-/
namespace Go.Proofs.YtlnpefiipdkafaaGreatDoor
open Go.RowKit

theorem RList.take {α:Type} {sz:Nat} {R:World→List Value→α→Prop} {w:World} {A:Option Addr} {xs:List α} {c k:Nat} (h:RList sz R w (.slice A xs.length c) xs) (hk:k≤xs.length):RList sz R w (.slice A k c) (xs.take k):=by
 obtain ⟨A',c',e,h1,h2,h3⟩:=h
 injection e with e1 e2 e3
 subst e1 e3
 refine ⟨A,c,by rw [take_le hk],by rw [take_le hk];omega,h2,?_⟩
 rcases h3 with rfl|⟨b,off,hA,hc⟩
 ·left;simp
 ·right
  refine ⟨b,off,hA,fun i x hx=>hc i x ?_⟩
  rw [List.getElem?_take] at hx
  split at hx
  ·exact hx
  ·cases hx
/-- the same kind between the same pins -/
def sameB (o a:ArcD):Bool:=(o.kind==a.kind)&&(o.src==a.src)&&(o.dst==a.dst)
theorem sameB_iff {o a:ArcD}:sameB o a=true↔sameArc o a:=by
 unfold sameB sameArc
 simp only [Bool.and_eq_true,beq_iff_eq,and_assoc]
set_option maxHeartbeats 1000000 in
theorem areArcs1_any {a:ArcD} (x:ArcD) (c0 c1 c2 c3 c4 c5:Value) (g:Nat) (W:World) (hr:RArc W [c0,c1,c2,c3,c4,c5] x) (h0:W.cell? ⟨g,0,none⟩=some (.int .i64 a.kind)) (h1:W.cell? ⟨g,1,none⟩=some (.int .i64 a.src)) (h2:W.cell? ⟨g,2,none⟩=some (.int .i64 a.dst)) :
  Calls Tryz.prog 127 #[.agg #[c0,c1,c2,c3,c4,c5],.pointer (some ⟨g,0,none⟩)] W fun e W'=>e=.returned (.bool (sameB x a))∧Grows W W':=by
 obtain ⟨rfl,rfl,rfl,rfl,-⟩:=hr.parts
 have lb:=cell_lt h0
 simp at lb
 clear hr
 cases z0:(x.kind==a.kind)
 ·have E:=hideIt (show sameB x a=false by unfold sameB;rw [z0];rfl)
  go_enter Tryz.func127,Tryz.ntmps127
  go_wp2
  go_ret
  exact ⟨ret_bool E.out.symm,(Grows.refl _).alloc _⟩
 cases z1:(x.src==a.src)
 ·have E:=hideIt (show sameB x a=false by unfold sameB;rw [z0,z1];rfl)
  go_enter Tryz.func127,Tryz.ntmps127
  go_wp2
  go_ret
  exact ⟨ret_bool E.out.symm,(Grows.refl _).alloc _⟩
 cases z2:(x.dst==a.dst)
 ·have E:=hideIt (show sameB x a=false by unfold sameB;rw [z0,z1,z2];rfl)
  go_enter Tryz.func127,Tryz.ntmps127
  go_wp2
  go_ret
  exact ⟨ret_bool E.out.symm,(Grows.refl _).alloc _⟩
 ·have E:=hideIt (show sameB x a=true by unfold sameB;rw [z0,z1,z2];rfl)
  go_enter Tryz.func127,Tryz.ntmps127
  go_wp2
  go_ret
  exact ⟨ret_bool E.out.symm,(Grows.refl _).alloc _⟩

set_option maxHeartbeats 4000000 in
theorem areArcs_any {v0 v1 v2 v3 v4 v5 v6:Value} {x:CellD} (w:World) (h:RCell w [v0,v1,v2,v3,v4,v5,v6] x) :
  Calls Tryz.prog 111 #[.agg #[v0,v1,v2,v3,v4,v5,v6]] w fun e w'=>e=.returned (.bool (pB (iArcsP x.pins x.arcs)&&decide (x.arcs.length≤8)))∧Grows w w':=by
 have ha:=h.parts.2.2.2.1
 have hl:=RList.len ha
 obtain ⟨A,na,rfl,hle,hcm,hx⟩:=RList.form ha
 have g0:=(Grows.refl w).alloc (.cells #[v0,v1,v2,.slice A x.arcs.length na,v4,v5,v6] 112)
 have S:=hideIt (Blk.new w 112 #[v0,v1,v2,.slice A x.arcs.length na,v4,v5,v6])
 have HC:=hideIt (h.keep g0.keeps)
 have H:=hideIt ha
 have HX:=hideIt hx
 have G:=hideIt g0
 clear h ha hx g0
 go_enter Tryz.func111,Tryz.ntmps111
 go_wp2
 go_loopw [3,4,8] (fun _ _ i wr=>∃k:Nat,k≤x.arcs.length∧i=.int .i64 (k:Int)∧Hid (∀(j:Nat) (a:ArcD),j<k→x.arcs[j]?=some a→iArcB x.pins a=true∧∀(m:Nat) (b:ArcD),m<j→x.arcs[m]?=some b→¬sameArc b a)∧Grows (w.alloc (.cells #[v0,v1,v2,.slice A x.arcs.length na,v4,v5,v6] 112)) wr) (fun _ _ i _=>x.arcs.length - (intOf i).toNat)
 case atStart=>exact ⟨0,by omega,rfl,fun j a hj=>absurd hj (by omega),Grows.refl _⟩
 case round =>
  obtain ⟨k,hk,rfl,hco,hg⟩:=hrel
  have HG:=hideIt hg
  have GG:=hideIt (G.out.trans hg)
  have S2:=hideIt (S.out.grows hg)
  clear hg
  have kl:=S2.out.lt
  have k0:wr.cell? ⟨w.heap.size,0,none⟩=some (v0):=S2.out.cell 0
  have k1:wr.cell? ⟨w.heap.size,1,none⟩=some (v1):=S2.out.cell 1
  have k2:wr.cell? ⟨w.heap.size,2,none⟩=some (v2):=S2.out.cell 2
  have k3:wr.cell? ⟨w.heap.size,3,none⟩=some (.slice A x.arcs.length na):=S2.out.cell 3
  have k4:wr.cell? ⟨w.heap.size,4,none⟩=some (v4):=S2.out.cell 4
  have k5:wr.cell? ⟨w.heap.size,5,none⟩=some (v5):=S2.out.cell 5
  have k6:wr.cell? ⟨w.heap.size,6,none⟩=some (v6):=S2.out.cell 6
  by_cases hlt:k<x.arcs.length
  ·obtain ⟨a,hp⟩:∃a,x.arcs[k]?=some a:=⟨_,List.getElem?_eq_getElem hlt⟩
   obtain ⟨b,off,rfl,cs,hl1,hcs,hr⟩:=HX.out k a hp
   obtain ⟨d0,d1,d2,d3,d4,d5,rfl⟩:=list6 hl1
   have hra:=hr
   obtain ⟨rfl,rfl,rfl,rfl,hdl,hsl⟩:=hr.parts
   obtain ⟨AD,nd,rfl⟩:∃(D:Option Addr) (nd:Nat),d4=.slice D a.delay.length nd:=by obtain ⟨D,c,e,-⟩:=RList.form hdl;exact ⟨D,c,e⟩
   obtain ⟨AE,ne,rfl⟩:∃(D:Option Addr) (nd:Nat),d5=.slice D a.slew.length nd:=by obtain ⟨D,c,e,-⟩:=RList.form hsl;exact ⟨D,c,e⟩
   clear hdl hsl hr
   have lift:=GG.out.keeps
   have HA:=hideIt ((hra.keep lift).keep (((Grows.refl wr).alloc (.cells #[.int .i64 a.kind,.int .i64 a.src,.int .i64 a.dst,.int .i64 a.sense,.slice AD a.delay.length nd,.slice AE a.slew.length ne] 134)).keeps))
   have HC3:=hideIt (HC.out.keep (HG.out.alloc (.cells #[.int .i64 a.kind,.int .i64 a.src,.int .i64 a.dst,.int .i64 a.sense,.slice AD a.delay.length nd,.slice AE a.slew.length ne] 134)).keeps)
   have q0:wr.cell? ⟨b,off+k * 6,none⟩=some (.int .i64 a.kind):=lift _ _ (by simpa using hcs 0 _ rfl)
   have q1:wr.cell? ⟨b,off+k * 6+1,none⟩=some (.int .i64 a.src):=lift _ _ (by simpa [Nat.add_assoc] using hcs 1 _ rfl)
   have q2:wr.cell? ⟨b,off+k * 6+2,none⟩=some (.int .i64 a.dst):=lift _ _ (by simpa [Nat.add_assoc] using hcs 2 _ rfl)
   have q3:wr.cell? ⟨b,off+k * 6+3,none⟩=some (.int .i64 a.sense):=lift _ _ (by simpa [Nat.add_assoc] using hcs 3 _ rfl)
   have q4:wr.cell? ⟨b,off+k * 6+4,none⟩=some (.slice AD a.delay.length nd):=lift _ _ (by simpa [Nat.add_assoc] using hcs 4 _ rfl)
   have q5:wr.cell? ⟨b,off+k * 6+5,none⟩=some (.slice AE a.slew.length ne):=lift _ _ (by simpa [Nat.add_assoc] using hcs 5 _ rfl)
   have P1:=hideIt hp
   have kc2:(k:Int)≤(na:Int):=by omega
   have HT:=hideIt (RList.take H.out (Nat.le_of_lt hlt))
   clear hcs hl1 hra hp lift
   have BV:=hideIt (Blk.new wr 134 #[.int .i64 a.kind,.int .i64 a.src,.int .i64 a.dst,.int .i64 a.sense,.slice AD a.delay.length nd,.slice AE a.slew.length ne])
   have GW:=hideIt ((Grows.refl wr).alloc (.cells #[.int .i64 a.kind,.int .i64 a.src,.int .i64 a.dst,.int .i64 a.sense,.slice AD a.delay.length nd,.slice AE a.slew.length ne] 134))
   go_wp2_with fail
   refine (isArc_any _ HC3.out HA.out).mono ?_
   rintro e w2 ⟨rfl,g2⟩
   clear k0 k1 k2 k3 k4 k5 k6 kl q0 q1 q2 q3 q4 q5
   have BV2:=hideIt (BV.out.grows g2)
   have GW2:=hideIt (GW.out.trans g2)
   have G3:=hideIt (GG.out.trans GW2.out)
   have S3:=hideIt (S2.out.grows GW2.out)
   clear g2
   cases hA:iArcB x.pins a
   ·have EP:=hideIt (show (pB (iArcsP x.pins x.arcs)&&decide (x.arcs.length≤8))=false by rw [pB_false (p:=iArcsP x.pins x.arcs) fun h=>by have:=(h k a P1.out).1;rw [hA] at this;cases this];rfl)
    go_wp2
    go_ret
    exact ⟨ret_bool EP.out.symm,G3.out⟩
   have HA1:=hideIt hA
   clear hA
   have kl:=S3.out.lt
   have k3:w2.cell? ⟨w.heap.size,3,none⟩=some (.slice (some ⟨b,off,none⟩) x.arcs.length na):=S3.out.cell 3
   have al:=BV2.out.lt
   have an:x.arcs.length≤na:=hle
   go_wp2_with fail
   refine (containsFuncArc_any 127 _ (fun args W=>enters_of Tryz.func127 (by kernel_rfl) rfl args W) (fun o=>sameB o a) _ (HT.out.keep G3.out.keeps fun _ _ h=>h.keep G3.out.keeps) ?_).mono ?_
   ·intro y c0 c1 c2 c3 c4 c5 W _ gw hr
    exact areArcs1_any y c0 c1 c2 c3 c4 c5 _ W hr (gw.keeps _ _ (BV2.out.cell 0)) (gw.keeps _ _ (BV2.out.cell 1)) (gw.keeps _ _ (BV2.out.cell 2))
   rintro e w4 ⟨rfl,g4⟩
   have G4:=hideIt (G3.out.trans g4)
   have GB:=hideIt (HG.out.trans (GW2.out.trans g4))
   clear g4 k3 kl al
   cases hq:(x.arcs.take k).any fun o=>sameB o a
   ·have NE:Hid (∀(m:Nat) (r:ArcD),m<k→x.arcs[m]?=some r→¬sameArc r a):=hideIt fun m r hm hr hs=>by
     rw [List.any_eq_false] at hq
     have hmem:r∈x.arcs.take k:=List.mem_of_getElem? (i:=m) (by rw [List.getElem?_take,if_pos hm];exact hr)
     exact hq r hmem (sameB_iff.2 hs)
    clear hq
    go_wp2
    go_roundw
    case rel=>exact ⟨k+1,by omega,by go_num,fun j s hj hs=>by
     by_cases ej:j=k
     ·subst ej
      rw [P1.out] at hs
      injection hs with hs
      subst hs
      exact ⟨HA1.out,fun m r hm hr=>NE.out m r hm hr⟩
     ·exact hco.out j s (by omega) hs,GB.out⟩
    case measure=>simp [intOf];omega
   ·have EP:=hideIt (show (pB (iArcsP x.pins x.arcs)&&decide (x.arcs.length≤8))=false by
     rw [pB_false (p:=iArcsP x.pins x.arcs) fun h=>by
      obtain ⟨s,hm,hs⟩:=List.any_eq_true.1 hq
      obtain ⟨i,hi⟩:=List.getElem?_of_mem hm
      rw [List.getElem?_take] at hi
      split at hi
      ·exact (h k a P1.out).2 i s (by assumption) hi (sameB_iff.1 hs)
      ·cases hi];rfl)
    clear hq
    go_wp2
    go_ret
    exact ⟨ret_bool EP.out.symm,G4.out⟩
  ·obtain rfl:k=x.arcs.length:=by omega
   have EP:=hideIt (show (pB (iArcsP x.pins x.arcs)&&decide (x.arcs.length≤8))=decide ((x.arcs.length:Int)≤8) by
    rw [pB_true (p:=iArcsP x.pins x.arcs) fun j a hj=>hco.out j a (List.getElem?_eq_some_iff.1 hj).1 hj,Bool.true_and,Bool.eq_iff_iff]
    simp only [decide_eq_true_eq]
    omega)
   clear hco
   go_wp2
   go_ret
   exact ⟨ret_bool EP.out.symm,GG.out⟩
end Go.Proofs.YtlnpefiipdkafaaGreatDoor
/-
  Contract of the program's IsCell.
-/
namespace Go.Proofs.YtlnpefiipdkafaaGreatDoor
open Go.RowKit
set_option maxHeartbeats 4000000 in
theorem iIsCell_any {v0 v1 v2 v3 v4 v5 v6:Value} {x:CellD} (w:World) (h:RCell w [v0,v1,v2,v3,v4,v5,v6] x) (hsm:SmL x.pins) :
  Calls Tryz.prog 82 #[.agg #[v0,v1,v2,v3,v4,v5,v6]] w fun e w'=>e=.returned (.bool (cellB x))∧Grows w w':=by
 have h0:=h
 obtain ⟨rfl,rfl,hp,ha,ht,rfl,rfl,hz⟩:=h.parts
 have EC:=hideIt (show cellB x=pB (ICellP x) from pB_congr (icell_iff x).symm)
 obtain ⟨name,kind,pins,arcs,truth,leak,energy⟩:=x
 obtain ⟨A,np,rfl⟩:∃(D:Option Addr) (nd:Nat),v2=.slice D pins.length nd:=by obtain ⟨D,c,e,-⟩:=RList.form hp;exact ⟨D,c,e⟩
 obtain ⟨B,na,rfl⟩:∃(D:Option Addr) (nd:Nat),v3=.slice D arcs.length nd:=by obtain ⟨D,c,e,-⟩:=RList.form ha;exact ⟨D,c,e⟩
 obtain ⟨T,nt,rfl⟩:∃(D:Option Addr) (nd:Nat),v4=.slice D truth.length nd:=by obtain ⟨D,c,e,-⟩:=RList.form ht;exact ⟨D,c,e⟩
 simp only at *
 have g0:=(Grows.refl w).alloc (.cells #[.string name,.int .i64 kind,.slice A pins.length np,.slice B arcs.length na,.slice T truth.length nt,.int .i64 leak,.int .i64 energy] 112)
 have S:=hideIt (Blk.new w 112 #[.string name,.int .i64 kind,.slice A pins.length np,.slice B arcs.length na,.slice T truth.length nt,.int .i64 leak,.int .i64 energy])
 have HC:=hideIt (h0.keep g0.keeps)
 have HP:=hideIt (RPins.keep hp g0.keeps)
 have HZ:=hideIt hz
 have HS:=hideIt hsm
 have gg:=g0
 have HK:=hideIt (fun w' (g:Grows (w.alloc (.cells #[.string name,.int .i64 kind,.slice A pins.length np,.slice B arcs.length na,.slice T truth.length nt,.int .i64 leak,.int .i64 energy] 112)) w')=>(⟨(S.out.grows g).cell 0,(S.out.grows g).cell 1,(S.out.grows g).cell 2,(S.out.grows g).cell 3,(S.out.grows g).cell 4,(S.out.grows g).cell 5,(S.out.grows g).cell 6,(S.out.grows g).lt⟩:w'.cell? ⟨w.heap.size,0,none⟩=some (.string name)∧w'.cell? ⟨w.heap.size,1,none⟩=some (.int .i64 kind)∧w'.cell? ⟨w.heap.size,2,none⟩=some (.slice A pins.length np)∧w'.cell? ⟨w.heap.size,3,none⟩=some (.slice B arcs.length na)∧w'.cell? ⟨w.heap.size,4,none⟩=some (.slice T truth.length nt)∧w'.cell? ⟨w.heap.size,5,none⟩=some (.int .i64 leak)∧w'.cell? ⟨w.heap.size,6,none⟩=some (.int .i64 energy)∧w.heap.size<w'.heap.size))
 replace gg:Grows (w.alloc (.cells #[.string name,.int .i64 kind,.slice A pins.length np,.slice B arcs.length na,.slice T truth.length nt,.int .i64 leak,.int .i64 energy] 112)) (w.alloc (.cells #[.string name,.int .i64 kind,.slice A pins.length np,.slice B arcs.length na,.slice T truth.length nt,.int .i64 leak,.int .i64 energy] 112)):=Grows.refl _
 have GW:=hideIt g0
 clear h h0 hp ha ht g0 hz hsm
 cases qn:nameB name
 ·have FN:=hideIt qn
  have EP:=hideIt (EC.out.trans (pB_false fun h=>by have:=h.name;rw [FN.out] at this;cases this))
  clear qn
  go_enter Tryz.func82,Tryz.ntmps82
  go_wp2_with fail
  refine (isName_any _ _ HZ.out).mono ?_
  rintro e w1 ⟨rfl,g⟩
  rw [FN.out]
  replace gg:Grows (w.alloc (.cells #[.string name,.int .i64 kind,.slice A pins.length np,.slice B arcs.length na,.slice T truth.length nt,.int .i64 leak,.int .i64 energy] 112)) w1:=Grows.trans gg g
  clear g
  obtain ⟨y0,y1,y2,y3,y4,y5,y6,yl⟩:=HK.out _ gg
  go_wp2
  go_ret
  exact ⟨ret_bool EP.out.symm,GW.out.trans gg⟩
 have FN:=hideIt qn
 clear qn
 cases qp:pB (PinsP pins)
 ·have FP:=hideIt qp
  have EP:=hideIt (EC.out.trans (pB_false fun h=>by have:=pB_true h.pins;rw [FP.out] at this;cases this))
  clear qp
  go_enter Tryz.func82,Tryz.ntmps82
  go_wp2_with fail
  refine (isName_any _ _ HZ.out).mono ?_
  rintro e w1 ⟨rfl,g⟩
  rw [FN.out]
  replace gg:Grows (w.alloc (.cells #[.string name,.int .i64 kind,.slice A pins.length np,.slice B arcs.length na,.slice T truth.length nt,.int .i64 leak,.int .i64 energy] 112)) w1:=Grows.trans gg g
  clear g
  obtain ⟨y0,y1,y2,y3,y4,y5,y6,yl⟩:=HK.out _ gg
  go_wp2_with fail
  refine (arePins_any _ (HP.out.keep (Grows.keeps gg)) HS.out).mono ?_
  rintro e w2 ⟨rfl,g⟩
  rw [FP.out]
  replace gg:Grows (w.alloc (.cells #[.string name,.int .i64 kind,.slice A pins.length np,.slice B arcs.length na,.slice T truth.length nt,.int .i64 leak,.int .i64 energy] 112)) w2:=Grows.trans gg g
  clear g
  obtain ⟨y0,y1,y2,y3,y4,y5,y6,yl⟩:=HK.out _ gg
  go_wp2
  go_ret
  exact ⟨ret_bool EP.out.symm,GW.out.trans gg⟩
 have FP:=hideIt qp
 have PP:=hideIt (pB_iff.1 qp)
 clear qp
 have H2:=hideIt PP.out.1.1
 have H5:=hideIt PP.out.1.2
 cases qa:(pB (iArcsP pins arcs)&&decide (arcs.length≤8))
 ·have FA:=hideIt qa
  have EP:=hideIt (EC.out.trans (pB_false fun h=>by have h1:=pB_true h.arcs;have h2:=decide_eq_true h.few;have:=FA.out;simp only at h1 h2;rw [h1,h2] at this;cases this))
  clear qa
  go_enter Tryz.func82,Tryz.ntmps82
  go_wp2_with fail
  refine (isName_any _ _ HZ.out).mono ?_
  rintro e w1 ⟨rfl,g⟩
  rw [FN.out]
  replace gg:Grows (w.alloc (.cells #[.string name,.int .i64 kind,.slice A pins.length np,.slice B arcs.length na,.slice T truth.length nt,.int .i64 leak,.int .i64 energy] 112)) w1:=Grows.trans gg g
  clear g
  obtain ⟨y0,y1,y2,y3,y4,y5,y6,yl⟩:=HK.out _ gg
  go_wp2_with fail
  refine (arePins_any _ (HP.out.keep (Grows.keeps gg)) HS.out).mono ?_
  rintro e w2 ⟨rfl,g⟩
  rw [FP.out]
  replace gg:Grows (w.alloc (.cells #[.string name,.int .i64 kind,.slice A pins.length np,.slice B arcs.length na,.slice T truth.length nt,.int .i64 leak,.int .i64 energy] 112)) w2:=Grows.trans gg g
  clear g
  obtain ⟨y0,y1,y2,y3,y4,y5,y6,yl⟩:=HK.out _ gg
  go_wp2_with fail
  refine (areArcs_any _ (HC.out.keep (Grows.keeps gg))).mono ?_
  rintro e w3 ⟨rfl,g⟩
  rw [FA.out]
  replace gg:Grows (w.alloc (.cells #[.string name,.int .i64 kind,.slice A pins.length np,.slice B arcs.length na,.slice T truth.length nt,.int .i64 leak,.int .i64 energy] 112)) w3:=Grows.trans gg g
  clear g
  obtain ⟨y0,y1,y2,y3,y4,y5,y6,yl⟩:=HK.out _ gg
  go_wp2
  go_ret
  exact ⟨ret_bool EP.out.symm,GW.out.trans gg⟩
 have FA:=hideIt qa
 have QA:=hideIt ((Bool.and_eq_true _ _).mp qa)
 clear qa
 cases ql:inB leak 0 100000
 ·have FL:=hideIt ql
  have EP:=hideIt (EC.out.trans (pB_false fun h=>by have:=h.leak;rw [FL.out] at this;cases this))
  clear ql
  go_enter Tryz.func82,Tryz.ntmps82
  go_wp2_with fail
  refine (isName_any _ _ HZ.out).mono ?_
  rintro e w1 ⟨rfl,g⟩
  rw [FN.out]
  replace gg:Grows (w.alloc (.cells #[.string name,.int .i64 kind,.slice A pins.length np,.slice B arcs.length na,.slice T truth.length nt,.int .i64 leak,.int .i64 energy] 112)) w1:=Grows.trans gg g
  clear g
  obtain ⟨y0,y1,y2,y3,y4,y5,y6,yl⟩:=HK.out _ gg
  go_wp2_with fail
  refine (arePins_any _ (HP.out.keep (Grows.keeps gg)) HS.out).mono ?_
  rintro e w2 ⟨rfl,g⟩
  rw [FP.out]
  replace gg:Grows (w.alloc (.cells #[.string name,.int .i64 kind,.slice A pins.length np,.slice B arcs.length na,.slice T truth.length nt,.int .i64 leak,.int .i64 energy] 112)) w2:=Grows.trans gg g
  clear g
  obtain ⟨y0,y1,y2,y3,y4,y5,y6,yl⟩:=HK.out _ gg
  go_wp2_with fail
  refine (areArcs_any _ (HC.out.keep (Grows.keeps gg))).mono ?_
  rintro e w3 ⟨rfl,g⟩
  rw [FA.out]
  replace gg:Grows (w.alloc (.cells #[.string name,.int .i64 kind,.slice A pins.length np,.slice B arcs.length na,.slice T truth.length nt,.int .i64 leak,.int .i64 energy] 112)) w3:=Grows.trans gg g
  clear g
  obtain ⟨y0,y1,y2,y3,y4,y5,y6,yl⟩:=HK.out _ gg
  go_wp2_with (go_at_call 69;refine (within_any _ _ _ _).mono ?_;rintro e w' ⟨rfl,rfl⟩;first|rw [FL.out]|rw [FE.out])
  go_ret
  exact ⟨ret_bool EP.out.symm,GW.out.trans gg⟩
 have FL:=hideIt ql
 clear ql
 cases qe:inB energy 0 100000
 ·have FE:=hideIt qe
  have EP:=hideIt (EC.out.trans (pB_false fun h=>by have:=h.energy;rw [FE.out] at this;cases this))
  clear qe
  go_enter Tryz.func82,Tryz.ntmps82
  go_wp2_with fail
  refine (isName_any _ _ HZ.out).mono ?_
  rintro e w1 ⟨rfl,g⟩
  rw [FN.out]
  replace gg:Grows (w.alloc (.cells #[.string name,.int .i64 kind,.slice A pins.length np,.slice B arcs.length na,.slice T truth.length nt,.int .i64 leak,.int .i64 energy] 112)) w1:=Grows.trans gg g
  clear g
  obtain ⟨y0,y1,y2,y3,y4,y5,y6,yl⟩:=HK.out _ gg
  go_wp2_with fail
  refine (arePins_any _ (HP.out.keep (Grows.keeps gg)) HS.out).mono ?_
  rintro e w2 ⟨rfl,g⟩
  rw [FP.out]
  replace gg:Grows (w.alloc (.cells #[.string name,.int .i64 kind,.slice A pins.length np,.slice B arcs.length na,.slice T truth.length nt,.int .i64 leak,.int .i64 energy] 112)) w2:=Grows.trans gg g
  clear g
  obtain ⟨y0,y1,y2,y3,y4,y5,y6,yl⟩:=HK.out _ gg
  go_wp2_with fail
  refine (areArcs_any _ (HC.out.keep (Grows.keeps gg))).mono ?_
  rintro e w3 ⟨rfl,g⟩
  rw [FA.out]
  replace gg:Grows (w.alloc (.cells #[.string name,.int .i64 kind,.slice A pins.length np,.slice B arcs.length na,.slice T truth.length nt,.int .i64 leak,.int .i64 energy] 112)) w3:=Grows.trans gg g
  clear g
  obtain ⟨y0,y1,y2,y3,y4,y5,y6,yl⟩:=HK.out _ gg
  go_wp2_with (go_at_call 69;refine (within_any _ _ _ _).mono ?_;rintro e w' ⟨rfl,rfl⟩;first|rw [FL.out]|rw [FE.out])
  go_ret
  exact ⟨ret_bool EP.out.symm,GW.out.trans gg⟩
 have FE:=hideIt qe
 clear qe
 obtain ⟨q,qk⟩:∃q,kindB (⟨name,kind,pins,arcs,truth,leak,energy⟩:CellD)=q:=⟨_,rfl⟩
 have FK:=hideIt qk
 have EP:Hid (cellB (⟨name,kind,pins,arcs,truth,leak,energy⟩:CellD)=q):=hideIt (EC.out.trans (by
  cases q
  ·exact pB_false fun h=>by have:=h.ofKind;rw [FK.out] at this;cases this
  ·exact pB_true ⟨FN.out,PP.out,pB_iff.1 QA.out.1,of_decide_eq_true QA.out.2,FL.out,FE.out,FK.out⟩))
 clear qk
 go_enter Tryz.func82,Tryz.ntmps82
 go_wp2_with fail
 refine (isName_any _ _ HZ.out).mono ?_
 rintro e w1 ⟨rfl,g⟩
 rw [FN.out]
 replace gg:Grows (w.alloc (.cells #[.string name,.int .i64 kind,.slice A pins.length np,.slice B arcs.length na,.slice T truth.length nt,.int .i64 leak,.int .i64 energy] 112)) w1:=Grows.trans gg g
 clear g
 obtain ⟨y0,y1,y2,y3,y4,y5,y6,yl⟩:=HK.out _ gg
 go_wp2_with fail
 refine (arePins_any _ (HP.out.keep (Grows.keeps gg)) HS.out).mono ?_
 rintro e w2 ⟨rfl,g⟩
 rw [FP.out]
 replace gg:Grows (w.alloc (.cells #[.string name,.int .i64 kind,.slice A pins.length np,.slice B arcs.length na,.slice T truth.length nt,.int .i64 leak,.int .i64 energy] 112)) w2:=Grows.trans gg g
 clear g
 obtain ⟨y0,y1,y2,y3,y4,y5,y6,yl⟩:=HK.out _ gg
 go_wp2_with fail
 refine (areArcs_any _ (HC.out.keep (Grows.keeps gg))).mono ?_
 rintro e w3 ⟨rfl,g⟩
 rw [FA.out]
 replace gg:Grows (w.alloc (.cells #[.string name,.int .i64 kind,.slice A pins.length np,.slice B arcs.length na,.slice T truth.length nt,.int .i64 leak,.int .i64 energy] 112)) w3:=Grows.trans gg g
 clear g
 obtain ⟨y0,y1,y2,y3,y4,y5,y6,yl⟩:=HK.out _ gg
 go_wp2_with (go_at_call 69;refine (within_any _ _ _ _).mono ?_;rintro e w' ⟨rfl,rfl⟩;first|rw [FL.out]|rw [FE.out])
 refine (isOfKind_any _ (HC.out.keep (Grows.keeps gg)) H2.out H5.out).mono ?_
 rintro e w4 ⟨rfl,g⟩
 rw [FK.out]
 replace gg:Grows (w.alloc (.cells #[.string name,.int .i64 kind,.slice A pins.length np,.slice B arcs.length na,.slice T truth.length nt,.int .i64 leak,.int .i64 energy] 112)) w4:=Grows.trans gg g
 clear g
 obtain ⟨y0,y1,y2,y3,y4,y5,y6,yl⟩:=HK.out _ gg
 go_wp2
 go_ret
 exact ⟨ret_bool EP.out.symm,GW.out.trans gg⟩
end Go.Proofs.YtlnpefiipdkafaaGreatDoor
