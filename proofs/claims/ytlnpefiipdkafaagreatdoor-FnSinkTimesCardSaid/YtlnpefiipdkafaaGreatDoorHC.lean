/-
  Contract of the reference's places of a design.
-/
import Derived.Test.YtlnpefiipdkafaaGreatDoorHB
import Derived.Test.YtlnpefiipdkafaaGreatDoorHA
namespace Go.Proofs.YtlnpefiipdkafaaGreatDoor
open Go.RowKit
theorem flat_snoc (xs:List PlaceD) (p:PlaceD):(xs++[p]).flatMap plC=xs.flatMap plC++plC p:=by
 rw [List.flatMap_append,List.flatMap_singleton]
/-- a design of few parts -/
structure PlBd (d:DesignD):Prop where
 ni:d.insts.length≤14
 np:d.ports.length≤8
 nets:∀(i:Nat) (x:InstD),d.insts[i]?=some x→x.nets.length≤8
theorem DesP.bd {l:List CellD} {d:DesignD} (h:DesP l d):PlBd d:=⟨h.ni,h.np,fun i x hx=>by have:=(DesP.last h.lib (h.inst i x hx)).2;omega⟩
theorem plIs_lenB {d:DesignD} (h:PlBd d):∀{k:Nat},k≤d.insts.length→(plIs d.insts k).length≤8 * k
 | 0,_=>by simp [plIs]
 | k+1,hk=>by
  obtain ⟨x,hx⟩:∃x,d.insts[k]?=some x:=⟨_,List.getElem?_eq_getElem (by omega)⟩
  rw [plIs_succ hx,List.length_append,plI_len]
  have:=plIs_lenB h (k:=k) (by omega)
  have:=h.nets k x hx
  omega
theorem places_lenB {d:DesignD} (h:PlBd d):(placesL d).length≤120:=by
 unfold placesL
 rw [List.length_append,plPs_len (Nat.le_refl _)]
 have:=plIs_lenB h (Nat.le_refl d.insts.length)
 have:=h.ni
 have:=h.np
 omega
set_option maxHeartbeats 8000000 in
set_option maxRecDepth 10000 in
theorem sPlaces_n {a b c:Value} {d:DesignD} (w:World) (hd:RDesign w [a,b,c] d) (hp:PlBd d) :
  Calls Tryz.prog 48 #[.agg #[a,b,c]] w fun e w'=>∃v:Value,e=.returned v∧RPlaces w' v (placesL d)∧(∀q,v.ownBlock=some q→w.heap.size≤q)∧Grows w w':=by
 obtain ⟨i0,hi,hz0,hz1,hz2⟩:=info_parts info_spl
 have il:=RList.len hd.parts.1
 have nl:=RList.len hd.parts.2.1
 have ol:=RList.len hd.parts.2.2
 have hni:=hp.ni
 have hnp:=hp.np
 obtain ⟨I,N,O,ni,nn,no,rfl,rfl,rfl⟩:=des_open hd
 have g0:=(Grows.refl w).alloc (.cells #[.slice I d.insts.length ni,.slice N d.nets.length nn,.slice O d.ports.length no] 31)
 have S:=hideIt (Blk.new w 31 #[.slice I d.insts.length ni,.slice N d.nets.length nn,.slice O d.ports.length no])
 have HI:=hideIt (RInsts.keep hd.parts.1 g0.keeps)
 have HO:=hideIt (RPorts.keep hd.parts.2.2 g0.keeps)
 have G:=hideIt g0
 have DP:=hideIt hp
 have own0:Hid (((w.alloc (.cells #[.slice I d.insts.length ni,.slice N d.nets.length nn,.slice O d.ports.length no] 31)).alloc (.cells #[] 98)).ownsRow (w.heap.size+1) 98 4 (.slice (some ⟨w.heap.size+1,0,none⟩) 0 0) 0 []):=by
  have h:((w.alloc (.cells #[.slice I d.insts.length ni,.slice N d.nets.length nn,.slice O d.ports.length no] 31)).alloc (.cells #[] 98)).ownsRow (w.alloc (.cells #[.slice I d.insts.length ni,.slice N d.nets.length nn,.slice O d.ports.length no] 31)).heap.size 98 4 (.slice (some ⟨(w.alloc (.cells #[.slice I d.insts.length ni,.slice N d.nets.length nn,.slice O d.ports.length no] 31)).heap.size,0,none⟩) 0 0) 0 []:=⟨rfl,.inr ⟨(w.alloc (.cells #[.slice I d.insts.length ni,.slice N d.nets.length nn,.slice O d.ports.length no] 31)).heap.size,0,#[],rfl,Nat.le_refl _,Blk.new (w.alloc (.cells #[.slice I d.insts.length ni,.slice N d.nets.length nn,.slice O d.ports.length no] 31)) _ _,Nat.le_refl _,Nat.zero_le _,rfl,rfl⟩⟩
  exact hideIt (by simpa using h)
 clear hd g0 hp
 go_enter Tryz.func48,Tryz.ntmps48
 go_wp2
 go_loopw [3,4,5,6] (fun s i _ _ wr=>∃(nv:Value) (k:Nat),nv=s∧k≤d.insts.length∧i=.int .i64 (k:Int)∧Hid (wr.ownsRow (w.heap.size+1) 98 4 nv (plIs d.insts k).length ((plIs d.insts k).flatMap plC))∧Grows (w.alloc (.cells #[.slice I d.insts.length ni,.slice N d.nets.length nn,.slice O d.ports.length no] 31)) wr) (fun _ i _ _ _=>d.insts.length - (intOf i).toNat)
 case atStart=>exact ⟨_,0,rfl,by omega,rfl,own0.out,(Grows.refl _).alloc _⟩
 case round =>
  obtain ⟨nv,k,rfl,hk,rfl,hown,hg⟩:=hrel
  have HG:=hideIt hg
  have S2:=hideIt (S.out.grows hg)
  clear hg own0
  have kd0:wr.cell? ⟨w.heap.size,0,none⟩=some (.slice I d.insts.length ni):=S2.out.cell 0
  have kd1:wr.cell? ⟨w.heap.size,1,none⟩=some (.slice N d.nets.length nn):=S2.out.cell 1
  have kd2:wr.cell? ⟨w.heap.size,2,none⟩=some (.slice O d.ports.length no):=S2.out.cell 2
  have kdz:=S2.out.lt
  by_cases hlt:k<d.insts.length
  ·obtain ⟨x,hx⟩:∃x,d.insts[k]?=some x:=⟨_,List.getElem?_eq_getElem hlt⟩
   obtain ⟨bi,oi,XN,xn,rfl,-,-,p2,hxn,-⟩:=inst_at HI.out hx
   have q2:=HG.out.keeps _ _ p2
   have xl:=RList.len hxn
   have x5:=DP.out.nets k x hx
   have pl:=plIs_lenB DP.out (k:=k) hk
   have X1:=hideIt hx
   have HXN:=hideIt hxn
   have NX:=hideIt (plIs_succ hx)
   obtain ⟨w3,ew3⟩:∃w3:World,w3=wr:=⟨_,rfl⟩
   subst ew3
   clear hx hxn p2
   go_wp2
   go_loopw [3,6] (fun s i wr=>∃(nv:Value) (q:Nat),nv=s∧q≤x.nets.length∧i=.int .i64 (q:Int)∧Hid (wr.ownsRow (w.heap.size+1) 98 4 nv ((plIs d.insts k).length+q) ((plIs d.insts k++plI k x q).flatMap plC))∧Grows (w.alloc (.cells #[.slice (some ⟨bi,oi,none⟩) d.insts.length ni,.slice N d.nets.length nn,.slice O d.ports.length no] 31)) wr) (fun _ i _=>x.nets.length - (intOf i).toNat)
   case atStart=>exact ⟨_,0,rfl,by omega,rfl,hideIt (by have:=hown.out;simpa [plI] using this),HG.out⟩
   case round =>
    obtain ⟨nw,q,rfl,hq,rfl,hown2,hg⟩:=hrel
    have HH:=hideIt hg
    have Y2:=hideIt (S.out.grows hg)
    clear hg kd0 kd1 kd2 kdz q2
    have kd0:wr.cell? ⟨w.heap.size,0,none⟩=some (.slice (some ⟨bi,oi,none⟩) d.insts.length ni):=Y2.out.cell 0
    have kd1:wr.cell? ⟨w.heap.size,1,none⟩=some (.slice N d.nets.length nn):=Y2.out.cell 1
    have kd2:wr.cell? ⟨w.heap.size,2,none⟩=some (.slice O d.ports.length no):=Y2.out.cell 2
    have kdz:=Y2.out.lt
    by_cases hlq:q<x.nets.length
    ·obtain ⟨v,hv⟩:∃v,x.nets[q]?=some v:=⟨_,List.getElem?_eq_getElem hlq⟩
     obtain ⟨bn,on,rfl,kv⟩:=ints_at (RInts.keep HXN.out HH.out.keeps) hv
     have PS:=hideIt (plI_succ (i:=k) hv)
     have ed:((q:Int)==(x.nets.length:Int) - 1)=decide (q+1=x.nets.length):=by rw [Bool.eq_iff_iff];simp;omega
     have own1:=hideIt (hown2.out.alloc (.cells #[.int .i64 (k:Int),.int .i64 (q:Int),.int .i64 v,.bool (decide (q+1=x.nets.length))] 98))
     have GB:=hideIt (HH.out.alloc (.cells #[.int .i64 (k:Int),.int .i64 (q:Int),.int .i64 v,.bool (decide (q+1=x.nets.length))] 98))
     have nlt:Hid (∀q,nw.ownBlock=some q→w.heap.size+1≤q∧q<wr.heap.size):=hideIt hown2.out.lt
     clear hv
     go_wp2_with (at_builtin;refine wpList_append_own _ rfl _ _ 82 rfl (w.heap.size+1) 98 i0 (.agg #[.int .i64 0,.int .i64 0,.int .i64 0,.bool false]) 4 32 Tryz.underlying82 hi hz0 hz1 hz2 rfl (by decide) nw ((plIs d.insts k).length+q) ((plIs d.insts k++plI k x q).flatMap plC) rfl own1.out ⟨wr.heap.size,0,none⟩ 1 1 [.int .i64 (k:Int),.int .i64 (q:Int),.int .i64 v,.bool (decide (q+1=x.nets.length))] rfl ?c1 ?c2 ?c3 ?c4 ?c5 ?c6 ?_)
     case c1=>simp
     case c2 =>
      intro j u hj
      match j,hj with
      | 0,hj=>simp at hj;subst hj;simp [Addr.add]
      | 1,hj=>simp at hj;subst hj;simp [Addr.add]
      | 2,hj=>simp at hj;subst hj;simp [Addr.add]
      | 3,hj=>simp at hj;subst hj;simp [Addr.add]
     case c3=>intro u hu;simp at hu;rcases hu with rfl|rfl|rfl|rfl<;>rfl
     case c4=>unfold maxLen;omega
     case c5=>omega
     case c6=>have:=GB.out.size;simpa using this
     intro v' w4 hown3 hgrow hnil
     have G4:=hideIt (GB.out.grown hgrow (fun q e=>by have h1:=(nlt.out q e).1;simpa using h1))
     have OW:=hideIt (show w4.ownsRow (w.heap.size+1) 98 4 v' ((plIs d.insts k).length+(q+1)) ((plIs d.insts k++plI k x (q+1)).flatMap plC) by rw [PS.out,List.flatMap_append,List.flatMap_append,List.flatMap_singleton];exact hown3)
     clear hown3 hgrow hnil own1
     go_wp2
     go_roundw
     case rel=>exact ⟨_,q+1,rfl,by omega,by go_num,OW.out,G4.out⟩
     case measure=>simp [intOf];omega
    ·obtain rfl:q=x.nets.length:=by omega
     have OW:=hideIt (show wr.ownsRow (w.heap.size+1) 98 4 nw (plIs d.insts (k+1)).length ((plIs d.insts (k+1)).flatMap plC) by rw [NX.out,List.length_append,plI_len];exact hown2.out)
     clear hown2
     go_wp2
     go_roundw
     case rel=>exact ⟨_,k+1,rfl,by omega,by go_num,OW.out,HH.out⟩
     case measure=>simp [intOf];omega
  ·obtain rfl:k=d.insts.length:=by omega
   have pl:=plIs_lenB DP.out (k:=d.insts.length) (Nat.le_refl _)
   have OW0:=hideIt (show wr.ownsRow (w.heap.size+1) 98 4 nv ((plIs d.insts d.insts.length).length+0) ((plIs d.insts d.insts.length++plPs d.ports 0).flatMap plC) by have:=hown.out;simpa [plPs] using this)
   obtain ⟨w3,ew3⟩:∃w3:World,w3=wr:=⟨_,rfl⟩
   subst ew3
   clear hown
   go_wp2
   go_loopw [3,7] (fun s i wr=>∃(nv:Value) (q:Nat),nv=s∧q≤d.ports.length∧i=.int .i64 (q:Int)∧Hid (wr.ownsRow (w.heap.size+1) 98 4 nv ((plIs d.insts d.insts.length).length+q) ((plIs d.insts d.insts.length++plPs d.ports q).flatMap plC))∧Grows (w.alloc (.cells #[.slice I d.insts.length ni,.slice N d.nets.length nn,.slice O d.ports.length no] 31)) wr) (fun _ i _=>d.ports.length - (intOf i).toNat)
   case atStart=>exact ⟨_,0,rfl,by omega,rfl,OW0.out,HG.out⟩
   case round =>
    obtain ⟨nw,q,rfl,hq,rfl,hown2,hg⟩:=hrel
    have HH:=hideIt hg
    have Y2:=hideIt (S.out.grows hg)
    clear hg kd0 kd1 kd2 kdz
    have kd0:wr.cell? ⟨w.heap.size,0,none⟩=some (.slice I d.insts.length ni):=Y2.out.cell 0
    have kd1:wr.cell? ⟨w.heap.size,1,none⟩=some (.slice N d.nets.length nn):=Y2.out.cell 1
    have kd2:wr.cell? ⟨w.heap.size,2,none⟩=some (.slice O d.ports.length no):=Y2.out.cell 2
    have kdz:=Y2.out.lt
    by_cases hlq:q<d.ports.length
    ·obtain ⟨p,hp⟩:∃p,d.ports[q]?=some p:=⟨_,List.getElem?_eq_getElem hlq⟩
     obtain ⟨bi,oi,rfl,-,p1,p2,-⟩:=port_at HO.out hp
     have PS:=hideIt (plPs_succ hp)
     have own1:=hideIt (hown2.out.alloc (.cells #[.int .i64 (-1),.int .i64 (q:Int),.int .i64 p.net,.bool (p.dir==1)] 98))
     have GB:=hideIt (HH.out.alloc (.cells #[.int .i64 (-1),.int .i64 (q:Int),.int .i64 p.net,.bool (p.dir==1)] 98))
     have nlt:Hid (∀q,nw.ownBlock=some q→w.heap.size+1≤q∧q<wr.heap.size):=hideIt hown2.out.lt
     clear hp
     have K0:∀w',Grows (w.alloc (.cells #[.slice I d.insts.length ni,.slice N d.nets.length nn,.slice (some ⟨bi,oi,none⟩) d.ports.length no] 31)) w'→w'.cell? ⟨w.heap.size,0,none⟩=some (.slice I d.insts.length ni)∧w'.cell? ⟨w.heap.size,1,none⟩=some (.slice N d.nets.length nn)∧w'.cell? ⟨w.heap.size,2,none⟩=some (.slice (some ⟨bi,oi,none⟩) d.ports.length no)∧w'.cell? ⟨bi,oi+q * 3+1,none⟩=some (.int .i64 p.dir)∧w'.cell? ⟨bi,oi+q * 3+2,none⟩=some (.int .i64 p.net)∧Grows (w.alloc (.cells #[.slice I d.insts.length ni,.slice N d.nets.length nn,.slice (some ⟨bi,oi,none⟩) d.ports.length no] 31)) w':=fun w' G=>⟨(G.cells.1 _ _ S.out.lt).trans (S.out.cell 0),(G.cells.1 _ _ S.out.lt).trans (S.out.cell 1),(G.cells.1 _ _ S.out.lt).trans (S.out.cell 2),G.keeps _ _ p1,G.keeps _ _ p2,G⟩
     have HK:=hideIt K0
     clear K0
     have gg:Grows (w.alloc (.cells #[.slice I d.insts.length ni,.slice N d.nets.length nn,.slice (some ⟨bi,oi,none⟩) d.ports.length no] 31)) wr:=HH.out
     go_wp2
     refine wp_region_held_drew (S:=(fun w'=>w'.cell? ⟨w.heap.size,0,none⟩=some (.slice I d.insts.length ni)∧w'.cell? ⟨w.heap.size,1,none⟩=some (.slice N d.nets.length nn)∧w'.cell? ⟨w.heap.size,2,none⟩=some (.slice (some ⟨bi,oi,none⟩) d.ports.length no)∧w'.cell? ⟨bi,oi+q * 3+1,none⟩=some (.int .i64 p.dir)∧w'.cell? ⟨bi,oi+q * 3+2,none⟩=some (.int .i64 p.net)∧Grows (w.alloc (.cells #[.slice I d.insts.length ni,.slice N d.nets.length nn,.slice (some ⟨bi,oi,none⟩) d.ports.length no] 31)) w')) (by kernel_rfl) ?_ (fun hh0=>?_)
     ·(try dsimp only);exact HK.out _ gk
     refine regTk 0 hh0 ?_
     refine regTk 1 hh0 ?_
     refine regTk 2 hh0 ?_
     refine regTk 3 hh0 ?_
     refine regTk 4 hh0 ?_
     refine regTk 5 hh0 ?_
     refine regTk 6 hh0 ?_
     refine regTk 7 hh0 ?_
     refine regTk 8 hh0 ?_
     refine regTk 9 hh0 ?_
     refine regTk 10 hh0 ?_
     refine regTk 11 hh0 ?_
     refine regTk 12 hh0 ?_
     refine regTk 13 hh0 ?_
     refine regTk 14 hh0 ?_
     refine regTk 15 hh0 ?_
     refine regCall 16 (fun K hK=>?_)
     go_simp
     
     (try go_wp2_with fail)
     refine hK.out _ _ ?_ (fun hh1=>?_)
     ·(try dsimp only);exact HK.out _ gk
     clear hK K hh0
     try simp only [Act.put,List.setIfInBounds_toArray,List.set_cons_zero,List.set_cons_succ]
     refine regCall 17 (fun K hK=>?_)
     refine wp_append_own _ _ _ 82 rfl (w.heap.size+1) 98 i0 (.agg #[.int .i64 0,.int .i64 0,.int .i64 0,.bool false]) 4 32 Tryz.underlying82 hi hz0 hz1 hz2 rfl (by decide) nw ((plIs d.insts d.insts.length).length+q) ((plIs d.insts d.insts.length++plPs d.ports q).flatMap plC) (by rfl) (by have h:=own1.out;exact h) ⟨wr.heap.size,0,none⟩ 1 1 [.int .i64 (-1),.int .i64 (q:Int),.int .i64 p.net,.bool (p.dir==1)] (by rfl) rfl ?c2 ?c3 ?c4 ?c5 ?c6 ?_
     case c2 =>
      intro j u hj
      match j,hj with
      | 0,hj=>simp at hj;subst hj;simp [Addr.add]
      | 1,hj=>simp at hj;subst hj;simp [Addr.add]
      | 2,hj=>simp at hj;subst hj;simp [Addr.add]
      | 3,hj=>simp at hj;subst hj;simp [Addr.add]
     case c3=>intro u hu;simp at hu;rcases hu with rfl|rfl|rfl|rfl<;>rfl
     case c4=>unfold maxLen;omega
     case c5=>omega
     case c6=>have:=GB.out.size;simpa using this
     intro v' w4 hown3 hgrow hnil
     have gg:Grows (w.alloc (.cells #[.slice I d.insts.length ni,.slice N d.nets.length nn,.slice (some ⟨bi,oi,none⟩) d.ports.length no] 31)) w4:=GB.out.drew.grown hgrow (fun q e=>by have h1:=(nlt.out q e).1;simpa using h1)
     refine hK.out _ _ ?_ (fun hh2=>?_)
     ·(try dsimp only);exact HK.out _ gk
     clear hK K hh1
     try simp only [Act.put,List.setIfInBounds_toArray,List.set_cons_zero,List.set_cons_succ]
     refine regTk 18 hh2 ?_
     refine wpAnyH_done (by kernel_rfl) ?_ _
     clear hh2
     have G4:=hideIt gg
     have OW:=hideIt (show w4.ownsRow (w.heap.size+1) 98 4 v' ((plIs d.insts d.insts.length).length+(q+1)) ((plIs d.insts d.insts.length++plPs d.ports (q+1)).flatMap plC) by rw [PS.out,←List.append_assoc,List.flatMap_append,List.flatMap_singleton];exact hown3)
     clear hown3 hgrow hnil own1
     go_wp2
     go_roundw
     case rel=>exact ⟨_,q+1,rfl,by omega,by go_num,OW.out,G4.out⟩
     case measure=>simp [intOf];omega
    ·obtain rfl:q=d.ports.length:=by omega
     have RP:=hideIt (show RPlaces wr nw (placesL d) from own_splaces (n:=(plIs d.insts d.insts.length).length+d.ports.length) (by unfold placesL;rw [List.length_append,plPs_len (Nat.le_refl _)]) hown2.out)
     have NB:=hideIt (show ∀q,nw.ownBlock=some q→w.heap.size≤q from fun q e=>by have:=(hown2.out.lt q e).1;omega)
     clear hown2
     go_wp2
     go_ret
     exact ⟨_,rfl,RP.out,NB.out,G.out.trans HH.out⟩
theorem sPlaces_b {a b c:Value} {d:DesignD} (w:World) (hd:RDesign w [a,b,c] d) (hp:PlBd d) :
  Calls Tryz.prog 48 #[.agg #[a,b,c]] w fun e w'=>∃v:Value,e=.returned v∧RPlaces w' v (placesL d)∧Grows w w' :=
 (sPlaces_n w hd hp).mono fun _ _ ⟨v,he,hr,_,g⟩=>⟨v,he,hr,g⟩
theorem sPlaces_any {a b c:Value} {cs:List CellD} {d:DesignD} (w:World) (hd:RDesign w [a,b,c] d) (hp:DesP cs d) :
  Calls Tryz.prog 48 #[.agg #[a,b,c]] w fun e w'=>∃v:Value,e=.returned v∧RPlaces w' v (placesL d)∧Grows w w' :=
 (sPlaces_n w hd hp.bd).mono fun _ _ ⟨v,he,hr,_,g⟩=>⟨v,he,hr,g⟩
end Go.Proofs.YtlnpefiipdkafaaGreatDoor
/-
  Contract of the program's places of a design.
-/
namespace Go.Proofs.YtlnpefiipdkafaaGreatDoor
open Go.RowKit
theorem ownsRow_ne {w:World} {base:Nat} {e t:TypeId} {size:Nat} {v:Value} {n:Nat} {xs:List Value} {g:Nat} {cs:Array Value} (h:w.ownsRow base e size v n xs) (b:Blk w g t cs) (ht:t≠e):∀k,v.ownBlock=some k→k≠g:=by
 obtain ⟨hl,⟨rfl,h0⟩|⟨q,c,cur,rfl,hb,hq,h1,h2,h3,h4⟩⟩:=h
 ·intro k hk;cases hk
 ·intro k hk e1
  injection hk with hk
  subst hk
  subst e1
  have h5:=Option.some.inj ((show w.heap[q]?=some (.cells cs t) from b).symm.trans (show w.heap[q]?=some (.cells cur e) from hq))
  injection h5 with h6 h7
  exact ht h7
theorem blk_grown {w w':World} {row:Option Nat} {g:Nat} {t:TypeId} {cs:Array Value} (h:Blk w g t cs) (hg:w.grownBy w' row) (hr:∀k,row=some k→k≠g):Blk w' g t cs :=
 (hg.block g h.lt (fun e=>hr g e.symm rfl)).trans h
set_option maxHeartbeats 8000000 in
set_option maxRecDepth 10000 in
theorem iPlaces_n {a b c:Value} {cs:List CellD} {d:DesignD} (w:World) (hd:RDesign w [a,b,c] d) (hp:DesP cs d) :
  Calls Tryz.prog 38 #[.agg #[a,b,c]] w fun e w'=>∃v:Value,e=.returned v∧RPlaces w' v (placesL d)∧(∀q,v.ownBlock=some q→w.heap.size≤q)∧Grows w w':=by
 obtain ⟨i0,hi,hz0,hz1,hz2⟩:=info_parts info_ipl
 have il:=RList.len hd.parts.1
 have nl:=RList.len hd.parts.2.1
 have ol:=RList.len hd.parts.2.2
 have hni:=hp.ni
 have hnp:=hp.np
 obtain ⟨I,N,O,ni,nn,no,rfl,rfl,rfl⟩:=des_open hd
 have g0:=(Grows.refl w).alloc (.cells #[.slice I d.insts.length ni,.slice N d.nets.length nn,.slice O d.ports.length no] 31)
 have S:=hideIt (Blk.new w 31 #[.slice I d.insts.length ni,.slice N d.nets.length nn,.slice O d.ports.length no])
 have HI:=hideIt (RInsts.keep hd.parts.1 g0.keeps)
 have HO:=hideIt (RPorts.keep hd.parts.2.2 g0.keeps)
 have G:=hideIt g0
 have DP:=hideIt hp
 clear hd g0 hp
 go_enter Tryz.func38,Tryz.ntmps38
 go_wp2
 go_loopw [3,4,5,6,7,13,21] (fun s _ _ _ _ i _ wr=>∃(nv:Value) (k:Nat),nv=s∧k≤d.insts.length∧i=.int .i64 (k:Int)∧Hid (wr.ownsRow (w.heap.size+1) 67 4 nv (plIs d.insts k).length ((plIs d.insts k).flatMap plC))∧Grows (w.alloc (.cells #[.slice I d.insts.length ni,.slice N d.nets.length nn,.slice O d.ports.length no] 31)) wr) (fun _ _ _ _ _ i _ _=>d.insts.length - (intOf i).toNat)
 case atStart=>exact ⟨_,0,rfl,by omega,rfl,hideIt (by simpa [plIs] using World.ownsRow_nil _ _ _ _),Grows.refl _⟩
 case round =>
  obtain ⟨nv,k,rfl,hk,rfl,hown,hg⟩:=hrel
  have HG:=hideIt hg
  have S2:=hideIt (S.out.grows hg)
  clear hg
  have kd0:wr.cell? ⟨w.heap.size,0,none⟩=some (.slice I d.insts.length ni):=S2.out.cell 0
  have kd1:wr.cell? ⟨w.heap.size,1,none⟩=some (.slice N d.nets.length nn):=S2.out.cell 1
  have kd2:wr.cell? ⟨w.heap.size,2,none⟩=some (.slice O d.ports.length no):=S2.out.cell 2
  have kdz:=S2.out.lt
  by_cases hlt:k<d.insts.length
  ·obtain ⟨x,hx⟩:∃x,d.insts[k]?=some x:=⟨_,List.getElem?_eq_getElem hlt⟩
   obtain ⟨bi,oi,XN,xn,rfl,p0,p1,p2,hxn,-⟩:=inst_at HI.out hx
   have q0:=HG.out.keeps _ _ p0
   have q1:=HG.out.keeps _ _ p1
   have q2:=HG.out.keeps _ _ p2
   have xl:=RList.len hxn
   have x5:=(DesP.last DP.out.lib (DP.out.inst k x hx)).2
   have pl:=plIs_len DP.out (k:=k) hk
   have X1:=hideIt hx
   have HXN:=hideIt hxn
   have NX:=hideIt (plIs_succ hx)
   obtain ⟨w3,ew3⟩:∃w3:World,w3=wr:=⟨_,rfl⟩
   subst ew3
   have BX0:=hideIt (Blk.new w3 72 #[.string x.name,.int .i64 x.cell,.slice XN x.nets.length xn])
   have HGX:=hideIt (HG.out.alloc (.cells #[.string x.name,.int .i64 x.cell,.slice XN x.nets.length xn] 72))
   have OWX:=hideIt (hown.out.alloc (.cells #[.string x.name,.int .i64 x.cell,.slice XN x.nets.length xn] 72))
   clear hx hxn p0 p1 p2
   go_wp2
   go_loopw [3,6,7,21] (fun s _ _ i wr=>∃(nv:Value) (q:Nat),nv=s∧q≤x.nets.length∧i=.int .i64 (q:Int)∧Hid (wr.ownsRow (w.heap.size+1) 67 4 nv ((plIs d.insts k).length+q) ((plIs d.insts k++plI k x q).flatMap plC))∧Hid (Blk wr w3.heap.size 72 #[.string x.name,.int .i64 x.cell,.slice XN x.nets.length xn])∧Grows (w.alloc (.cells #[.slice (some ⟨bi,oi,none⟩) d.insts.length ni,.slice N d.nets.length nn,.slice O d.ports.length no] 31)) wr) (fun _ _ _ i _=>x.nets.length - (intOf i).toNat)
   case atStart=>exact ⟨_,0,rfl,by omega,rfl,hideIt (by have:=OWX.out;simpa [plI] using this),BX0.out,HGX.out⟩
   case round =>
    obtain ⟨nw,q,rfl,hq,rfl,hown2,hbx,hg⟩:=hrel
    have HH:=hideIt hg
    have Y2:=hideIt (S.out.grows hg)
    have x2:wr.cell? ⟨w3.heap.size,2,none⟩=some (.slice XN x.nets.length xn):=hbx.out.cell 2
    have xz:=hbx.out.lt
    clear hg kd0 kd1 kd2 kdz q0 q1 q2
    have kd0:wr.cell? ⟨w.heap.size,0,none⟩=some (.slice (some ⟨bi,oi,none⟩) d.insts.length ni):=Y2.out.cell 0
    have kd1:wr.cell? ⟨w.heap.size,1,none⟩=some (.slice N d.nets.length nn):=Y2.out.cell 1
    have kd2:wr.cell? ⟨w.heap.size,2,none⟩=some (.slice O d.ports.length no):=Y2.out.cell 2
    have kdz:=Y2.out.lt
    by_cases hlq:q<x.nets.length
    ·obtain ⟨v,hv⟩:∃v,x.nets[q]?=some v:=⟨_,List.getElem?_eq_getElem hlq⟩
     obtain ⟨bn,on,rfl,kv⟩:=ints_at (RInts.keep HXN.out HH.out.keeps) hv
     have PS:=hideIt (plI_succ (i:=k) hv)
     have ed:((q:Int)==(x.nets.length:Int) - 1)=decide (q+1=x.nets.length):=by rw [Bool.eq_iff_iff];simp;omega
     have own1:=hideIt (hown2.out.alloc (.cells #[.int .i64 (k:Int),.int .i64 (q:Int),.int .i64 v,.bool (decide (q+1=x.nets.length))] 67))
     have GB:=hideIt (HH.out.alloc (.cells #[.int .i64 (k:Int),.int .i64 (q:Int),.int .i64 v,.bool (decide (q+1=x.nets.length))] 67))
     have nlt:Hid (∀q,nw.ownBlock=some q→w.heap.size+1≤q∧q<wr.heap.size):=hideIt hown2.out.lt
     clear hv
     go_wp2_with (at_builtin;refine wpList_append_own _ rfl _ _ 68 rfl (w.heap.size+1) 67 i0 (.agg #[.int .i64 0,.int .i64 0,.int .i64 0,.bool false]) 4 32 Tryz.underlying68 hi hz0 hz1 hz2 rfl (by decide) nw ((plIs d.insts k).length+q) ((plIs d.insts k++plI k x q).flatMap plC) rfl own1.out ⟨wr.heap.size,0,none⟩ 1 1 [.int .i64 (k:Int),.int .i64 (q:Int),.int .i64 v,.bool (decide (q+1=x.nets.length))] rfl ?c1 ?c2 ?c3 ?c4 ?c5 ?c6 ?_)
     case c1=>simp
     case c2 =>
      intro j u hj
      match j,hj with
      | 0,hj=>simp at hj;subst hj;simp [Addr.add]
      | 1,hj=>simp at hj;subst hj;simp [Addr.add]
      | 2,hj=>simp at hj;subst hj;simp [Addr.add]
      | 3,hj=>simp at hj;subst hj;simp [Addr.add]
     case c3=>intro u hu;simp at hu;rcases hu with rfl|rfl|rfl|rfl<;>rfl
     case c4=>unfold maxLen;omega
     case c5=>omega
     case c6=>have:=GB.out.size;simpa using this
     intro v' w4 hown3 hgrow hnil
     have G4:=hideIt (GB.out.grown hgrow (fun q e=>by have h1:=(nlt.out q e).1;simpa using h1))
     have OW:=hideIt (show w4.ownsRow (w.heap.size+1) 67 4 v' ((plIs d.insts k).length+(q+1)) ((plIs d.insts k++plI k x (q+1)).flatMap plC) by rw [PS.out,List.flatMap_append,List.flatMap_append,List.flatMap_singleton];exact hown3)
     have BN:=hideIt (blk_grown ((hbx.out).grows ((Grows.refl _).alloc (.cells #[.int .i64 (k:Int),.int .i64 (q:Int),.int .i64 v,.bool (decide (q+1=x.nets.length))] 67))) hgrow (ownsRow_ne own1.out ((hbx.out).grows ((Grows.refl _).alloc _)) (by decide)))
     clear hown3 hgrow hnil own1
     go_wp2
     go_roundw
     case rel=>exact ⟨_,q+1,rfl,by omega,by go_num,OW.out,BN.out,G4.out⟩
     case measure=>simp [intOf];omega
    ·obtain rfl:q=x.nets.length:=by omega
     have OW:=hideIt (show wr.ownsRow (w.heap.size+1) 67 4 nw (plIs d.insts (k+1)).length ((plIs d.insts (k+1)).flatMap plC) by rw [NX.out,List.length_append,plI_len];exact hown2.out)
     clear hown2
     go_wp2
     go_roundw
     case rel=>exact ⟨_,k+1,rfl,by omega,by go_num,OW.out,HH.out⟩
     case measure=>simp [intOf];omega
  ·obtain rfl:k=d.insts.length:=by omega
   have pl:=plIs_len DP.out (k:=d.insts.length) (Nat.le_refl _)
   have OW0:=hideIt (show wr.ownsRow (w.heap.size+1) 67 4 nv ((plIs d.insts d.insts.length).length+0) ((plIs d.insts d.insts.length++plPs d.ports 0).flatMap plC) by have:=hown.out;simpa [plPs] using this)
   obtain ⟨w3,ew3⟩:∃w3:World,w3=wr:=⟨_,rfl⟩
   subst ew3
   clear hown
   go_wp2
   go_loopw [3,8,9,44] (fun s _ _ i wr=>∃(nv:Value) (q:Nat),nv=s∧q≤d.ports.length∧i=.int .i64 (q:Int)∧Hid (wr.ownsRow (w.heap.size+1) 67 4 nv ((plIs d.insts d.insts.length).length+q) ((plIs d.insts d.insts.length++plPs d.ports q).flatMap plC))∧Grows (w.alloc (.cells #[.slice I d.insts.length ni,.slice N d.nets.length nn,.slice O d.ports.length no] 31)) wr) (fun _ _ _ i _=>d.ports.length - (intOf i).toNat)
   case atStart=>exact ⟨_,0,rfl,by omega,rfl,OW0.out,HG.out⟩
   case round =>
    obtain ⟨nw,q,rfl,hq,rfl,hown2,hg⟩:=hrel
    have HH:=hideIt hg
    have Y2:=hideIt (S.out.grows hg)
    clear hg kd0 kd1 kd2 kdz
    have kd0:wr.cell? ⟨w.heap.size,0,none⟩=some (.slice I d.insts.length ni):=Y2.out.cell 0
    have kd1:wr.cell? ⟨w.heap.size,1,none⟩=some (.slice N d.nets.length nn):=Y2.out.cell 1
    have kd2:wr.cell? ⟨w.heap.size,2,none⟩=some (.slice O d.ports.length no):=Y2.out.cell 2
    have kdz:=Y2.out.lt
    by_cases hlq:q<d.ports.length
    ·obtain ⟨p,hp⟩:∃p,d.ports[q]?=some p:=⟨_,List.getElem?_eq_getElem hlq⟩
     obtain ⟨bi,oi,rfl,q0,q1,q2,-⟩:=port_at (RPorts.keep HO.out HH.out.keeps) hp
     have PS:=hideIt (plPs_succ hp)
     have own1:=hideIt ((hown2.out.alloc (.cells #[.string p.name,.int .i64 p.dir,.int .i64 p.net] 74)).alloc (.cells #[.int .i64 (-1),.int .i64 (q:Int),.int .i64 p.net,.bool (p.dir==1)] 67))
     have GB:=hideIt ((HH.out.alloc (.cells #[.string p.name,.int .i64 p.dir,.int .i64 p.net] 74)).alloc (.cells #[.int .i64 (-1),.int .i64 (q:Int),.int .i64 p.net,.bool (p.dir==1)] 67))
     have nlt:Hid (∀q,nw.ownBlock=some q→w.heap.size+1≤q∧q<wr.heap.size):=hideIt hown2.out.lt
     clear hp
     go_wp2_with (at_builtin;refine wpList_append_own _ rfl _ _ 68 rfl (w.heap.size+1) 67 i0 (.agg #[.int .i64 0,.int .i64 0,.int .i64 0,.bool false]) 4 32 Tryz.underlying68 hi hz0 hz1 hz2 rfl (by decide) nw ((plIs d.insts d.insts.length).length+q) ((plIs d.insts d.insts.length++plPs d.ports q).flatMap plC) rfl own1.out ⟨wr.heap.size+1,0,none⟩ 1 1 [.int .i64 (-1),.int .i64 (q:Int),.int .i64 p.net,.bool (p.dir==1)] rfl ?c1 ?c2 ?c3 ?c4 ?c5 ?c6 ?_)
     case c1=>simp
     case c2 =>
      intro j u hj
      match j,hj with
      | 0,hj=>simp at hj;subst hj;simp [Addr.add]
      | 1,hj=>simp at hj;subst hj;simp [Addr.add]
      | 2,hj=>simp at hj;subst hj;simp [Addr.add]
      | 3,hj=>simp at hj;subst hj;simp [Addr.add]
     case c3=>intro u hu;simp at hu;rcases hu with rfl|rfl|rfl|rfl<;>rfl
     case c4=>unfold maxLen;omega
     case c5=>omega
     case c6=>have:=GB.out.size;simpa using this
     intro v' w4 hown3 hgrow hnil
     have G4:=hideIt (GB.out.grown hgrow (fun q e=>by have h1:=(nlt.out q e).1;simpa using h1))
     have OW:=hideIt (show w4.ownsRow (w.heap.size+1) 67 4 v' ((plIs d.insts d.insts.length).length+(q+1)) ((plIs d.insts d.insts.length++plPs d.ports (q+1)).flatMap plC) by rw [PS.out,List.flatMap_append,List.flatMap_append,List.flatMap_singleton];exact hown3)
     clear hown3 hgrow hnil own1
     go_wp2
     go_roundw
     case rel=>exact ⟨_,q+1,rfl,by omega,by go_num,OW.out,G4.out⟩
     case measure=>simp [intOf];omega
    ·obtain rfl:q=d.ports.length:=by omega
     have RP:=hideIt (show RPlaces wr nw (placesL d) from own_iplaces (n:=(plIs d.insts d.insts.length).length+d.ports.length) (by unfold placesL;rw [List.length_append,plPs_len (Nat.le_refl _)]) hown2.out)
     have NB:=hideIt (show ∀q,nw.ownBlock=some q→w.heap.size≤q from fun q e=>by have:=(hown2.out.lt q e).1;omega)
     clear hown2
     go_wp2
     go_ret
     exact ⟨_,rfl,RP.out,NB.out,G.out.trans HH.out⟩
theorem iPlaces_any {a b c:Value} {cs:List CellD} {d:DesignD} (w:World) (hd:RDesign w [a,b,c] d) (hp:DesP cs d) :
  Calls Tryz.prog 38 #[.agg #[a,b,c]] w fun e w'=>∃v:Value,e=.returned v∧RPlaces w' v (placesL d)∧Grows w w' :=
 (iPlaces_n w hd hp).mono fun _ _ ⟨v,he,hr,_,g⟩=>⟨v,he,hr,g⟩
end Go.Proofs.YtlnpefiipdkafaaGreatDoor
