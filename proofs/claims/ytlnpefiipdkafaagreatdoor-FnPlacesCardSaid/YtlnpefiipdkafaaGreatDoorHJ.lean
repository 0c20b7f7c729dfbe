/-
  What the functions over a design's places answer, in plain Lean.
-/
import Derived.Test.YtlnpefiipdkafaaGreatDoorGM
import Derived.Test.YtlnpefiipdkafaaGreatDoorHA
import Derived.Test.YtlnpefiipdkafaaGreatDoorHB
namespace Go.Proofs.YtlnpefiipdkafaaGreatDoor
open Go.RowKit
def zPl:PlaceD:=⟨0,0,0,false⟩
def plV (p:PlaceD):Value:=.agg #[.int .i64 p.inst,.int .i64 p.pin,.int .i64 p.net,.bool p.drives]
noncomputable def atB (l:List CellD) (d:DesignD) (n:Int):Bool:=desB l d&&inB n 0 (((placesL d).length:Int) - 1)
noncomputable def atV (l:List CellD) (d:DesignD) (n:Int):PlaceD:=if atB l d n=true then (placesL d).getD n.toNat zPl else zPl
theorem atB_no {l:List CellD} {d:DesignD} {n:Int} (h:desB l d=false):atB l d n=false:=by unfold atB;rw [h];rfl
theorem atB_eq {l:List CellD} {d:DesignD} {n:Int} (h:desB l d=true):atB l d n=inB n 0 (((placesL d).length:Int) - 1):=by unfold atB;rw [h];rfl
theorem atV_no {l:List CellD} {d:DesignD} {n:Int} (h:atB l d n=false):atV l d n=zPl:=if_neg (by rw [h];decide)
theorem atB_true {l:List CellD} {d:DesignD} {n:Int} (h:atB l d n=true):DesP l d∧0≤n∧n.toNat<(placesL d).length∧(placesL d)[n.toNat]?=some (atV l d n)∧PlaceOk l d (atV l d n):=by
 have h0:=h
 unfold atB at h
 rw [Bool.and_eq_true] at h
 obtain ⟨h1,h2⟩:=h
 have hb:=inB_true h2
 have hlt:n.toNat<(placesL d).length:=by omega
 have e:(placesL d)[n.toNat]?=some (atV l d n):=by
  unfold atV
  rw [if_pos h0,List.getD_eq_getElem?_getD,List.getElem?_eq_getElem hlt];rfl
 have hp:DesP l d:=pB_iff.1 h1
 exact ⟨hp,hb.1,hlt,e,place_ok hp (List.mem_of_getElem? e)⟩
noncomputable def countV (l:List CellD) (d:DesignD):Int:=if desB l d=true then ((placesL d).length:Int) else -1
def isAt (i q:Int) (p:PlaceD):Bool:=decide (p.inst=i)&&decide (p.pin=q)
def drvAt (n:Int) (p:PlaceD):Bool:=decide (p.net=n)&&p.drives
def snkAt (n:Int) (p:PlaceD):Bool:=decide (p.net=n)&&!p.drives
noncomputable def findV (l:List CellD) (d:DesignD) (i q:Int):Int:=if desB l d=true then idxF (isAt i q) (placesL d) else -1
noncomputable def drvV (l:List CellD) (d:DesignD) (n:Int):Int:=if desB l d=true then idxF (drvAt n) (placesL d) else -1
theorem drv_out {l:List CellD} {d:DesignD} {n:Int} (h:DesP l d) (hn:netIn d n=false):idxF (drvAt n) (placesL d)=-1 :=
 idxF_miss fun j y _ hy=>by
  have hk:=(place_ok h (List.mem_of_getElem? hy)).net
  by_cases e:y.net=n
  ·rw [e,hn] at hk;cases hk
  ·unfold drvAt;simp [e]
noncomputable def instV (l:List CellD) (d:DesignD) (n:Int):Int:=if atB l d n=true then (atV l d n).inst else -1
noncomputable def pinV (l:List CellD) (d:DesignD) (n:Int):Int:=if atB l d n=true then (atV l d n).pin else -1
noncomputable def netV (l:List CellD) (d:DesignD) (n:Int):Int:=if atB l d n=true then (atV l d n).net else -1
/-- the cell's pin of a place at an instance -/
def pinAt (l:List CellD) (d:DesignD) (p:PlaceD):Option (InstD×PinD) :=
 match d.insts[p.inst.toNat]? with
 | some x=>match l[x.cell.toNat]? with
  | some c=>match c.pins[p.pin.toNat]? with
   | some q=>some (x,q)
   | none=>none
  | none=>none
 | none=>none
def capOf (l:List CellD) (d:DesignD) (p:PlaceD):Int:=if p.inst<0 then 0 else match pinAt l d p with|some (_,q)=>q.cap|none=>0
noncomputable def capV (l:List CellD) (d:DesignD) (n:Int):Int:=if atB l d n=true then capOf l d (atV l d n) else -1
theorem pinAt_of {l:List CellD} {d:DesignD} {p:PlaceD} {i k:Nat} {x:InstD} {c:CellD} {q:PinD} (hi:p.inst=(i:Int)) (hk:p.pin=(k:Int)) (hx:d.insts[i]?=some x) (hc:l[x.cell.toNat]?=some c) (hq:c.pins[k]?=some q):pinAt l d p=some (x,q):=by
 unfold pinAt
 rw [hi,hk,Int.toNat_natCast,Int.toNat_natCast,hx]
 simp only [hc,hq]
theorem capOf_pin {l:List CellD} {d:DesignD} {p:PlaceD} {x:InstD} {q:PinD} (h:0≤p.inst) (hp:pinAt l d p=some (x,q)):capOf l d p=q.cap:=by
 unfold capOf;rw [if_neg (by omega),hp]
theorem capOf_port {l:List CellD} {d:DesignD} {p:PlaceD} (h:p.inst<0):capOf l d p=0:=if_pos h
/-- the sinks of a net: the numbers of its places that do not drive it -/
def snkL (n:Int) (ps:List PlaceD) (k:Nat):List Int:=(List.range k).filterMap fun (i:Nat)=>match ps[i]? with|some p=>if snkAt n p=true then some (i:Int) else none|none=>none
theorem snkL_succ {n:Int} {ps:List PlaceD} {k:Nat} {p:PlaceD} (h:ps[k]?=some p):snkL n ps (k+1)=snkL n ps k++(if snkAt n p=true then [(k:Int)] else []):=by
 unfold snkL
 rw [List.range_succ,List.filterMap_append]
 congr 1
 by_cases e:snkAt n p=true<;>simp [h,e]
theorem snkL_len (n:Int) (ps:List PlaceD) (k:Nat):(snkL n ps k).length≤k:=by
 unfold snkL
 have:=List.length_filterMap_le (fun (i:Nat)=>match ps[i]? with|some p=>if snkAt n p=true then some (i:Int) else none|none=>none) (List.range k)
 simpa using this
def sinksL (d:DesignD) (n:Int):List Int:=snkL n (placesL d) (placesL d).length
theorem snk_out {l:List CellD} {d:DesignD} {n:Int} (h:DesP l d) (hn:netIn d n=false):sinksL d n=[]:=by
 unfold sinksL snkL
 rw [List.filterMap_eq_nil_iff]
 intro i _
 cases hp:(placesL d)[i]? with
 | none=>rfl
 | some p =>
  have hk:=(place_ok h (List.mem_of_getElem? hp)).net
  have e:snkAt n p=false:=by
   by_cases e:p.net=n
   ·rw [e,hn] at hk;cases hk
   ·unfold snkAt;simp [e]
  simp [e]
noncomputable def sinksV (l:List CellD) (d:DesignD) (n:Int):List Int:=if desB l d=true then sinksL d n else []
end Go.Proofs.YtlnpefiipdkafaaGreatDoor
/-
  The name of a place, in plain Lean.
-/
namespace Go.Proofs.YtlnpefiipdkafaaGreatDoor
open Go.RowKit
def nameOf (l:List CellD) (d:DesignD) (p:PlaceD):ByteArray :=
 if p.inst<0 then (match d.ports[p.pin.toNat]? with|some o=>o.name|none=>⟨#[]⟩)
 else match pinAt l d p with|some (x,q)=>x.name++⟨#[47]⟩++q.name|none=>⟨#[]⟩
noncomputable def nameV (l:List CellD) (d:DesignD) (n:Int):ByteArray:=if atB l d n=true then nameOf l d (atV l d n) else ⟨#[]⟩
noncomputable def namedV (l:List CellD) (d:DesignD) (s:ByteArray):Int:=if desB l d=true then idxF (fun p=>decide (nameOf l d p=s)) (placesL d) else -1
theorem nameOf_pin {l:List CellD} {d:DesignD} {p:PlaceD} {x:InstD} {q:PinD} (h:0≤p.inst) (hp:pinAt l d p=some (x,q)):nameOf l d p=x.name++⟨#[47]⟩++q.name:=by
 unfold nameOf;rw [if_neg (by omega),hp]
theorem nameOf_port {l:List CellD} {d:DesignD} {p:PlaceD} {k:Nat} {o:PortD} (h:p.inst<0) (hk:p.pin=(k:Int)) (ho:d.ports[k]?=some o):nameOf l d p=o.name:=by
 unfold nameOf;rw [if_pos h,hk,Int.toNat_natCast,ho]
theorem nameB_size {s:ByteArray} (h:nameB s=true):1≤s.size∧s.size≤8:=by
 have:=nameL_inv h
 have e:s.data.toList.length=s.size:=Array.length_toList
 omega
theorem inst_name {l:List CellD} {d:DesignD} (h:DesP l d) {i:Nat} {x:InstD} (hx:d.insts[i]?=some x):nameB x.name=true :=
 h.iname.1 i _ (by rw [List.getElem?_map,hx];rfl)
theorem pin_name {l:List CellD} {d:DesignD} (h:DesP l d) {i k:Nat} {c:CellD} {q:PinD} (hc:l[i]?=some c) (hq:c.pins[k]?=some q):nameB q.name=true :=
 ((h.lib.1 i c hc).pins.2.1 k q hq).1
end Go.Proofs.YtlnpefiipdkafaaGreatDoor
/-
  What the places of a valid design are: named apart, each its net's driver or one of its sinks, and all of them counted.
-/
namespace Go.Proofs.YtlnpefiipdkafaaGreatDoor
open Go.RowKit
theorem filter_two {α:Type} {f:α→Bool} {xs:List α} {i j:Nat} {x y:α} (hij:i<j) (hx:xs[i]?=some x) (hy:xs[j]?=some y) (px:f x=true) (py:f y=true):2≤(xs.filter f).length:=by
 induction xs generalizing i j with
 | nil=>simp at hx
 | cons a l ih =>
  cases j with
  | zero=>omega
  | succ j =>
   simp at hy
   cases i with
   | zero =>
    simp at hx
    subst hx
    rw [List.filter_cons_of_pos px,List.length_cons]
    have:=List.length_pos_of_mem (List.mem_filter.2 ⟨List.mem_of_getElem? hy,py⟩)
    omega
   | succ i =>
    simp at hx
    have:=ih (by omega) hx hy
    by_cases pa:f a=true
    ·rw [List.filter_cons_of_pos pa,List.length_cons];omega
    ·rw [List.filter_cons_of_neg pa];exact this
theorem plI_none {i:Nat} {x:InstD} {q:Nat} {n:Int} (h:q<x.nets.length):(plI i x q).filter (drvAt n)=[]:=by
 rw [List.filter_eq_nil_iff]
 intro a ha
 unfold plI at ha
 obtain ⟨k,hk,rfl⟩:=List.mem_map.1 ha
 have hk:=List.mem_range.1 hk
 have e:decide (k+1=x.nets.length)=false:=decide_eq_false (by omega)
 unfold drvAt
 simp [e]
theorem plI_drv {i:Nat} {x:InstD} {j:Nat} (h:1≤x.nets.length):((plI i x x.nets.length).filter (drvAt (j:Int))).length=if lastNet x=(j:Int) then 1 else 0:=by
 obtain ⟨m,hm⟩:∃m,x.nets.length=m+1:=⟨x.nets.length - 1,by omega⟩
 obtain ⟨v,hv⟩:∃v,x.nets[m]?=some v:=⟨_,List.getElem?_eq_getElem (by omega)⟩
 have hl:lastNet x=v:=lastNet_of (by rw [hm];exact hv)
 rw [hm,plI_succ hv,List.filter_append,plI_none (by omega),List.nil_append,hl,List.filter_cons,List.filter_nil]
 have e:decide (m+1=x.nets.length)=true:=decide_eq_true (by omega)
 unfold drvAt
 simp only [e,Bool.and_true,decide_eq_true_eq]
 split<;>rfl
theorem plIs_drv {xs:List InstD} {j:Nat} (h:∀(i:Nat) (x:InstD),xs[i]?=some x→1≤x.nets.length):∀{k:Nat},k≤xs.length→((plIs xs k).filter (drvAt (j:Int))).length=cntI (xs.take k) j
 | 0,_=>by simp [plIs,cntI]
 | k+1,hk=>by
  obtain ⟨x,hx⟩:∃x,xs[k]?=some x:=⟨_,List.getElem?_eq_getElem (by omega)⟩
  rw [plIs_succ hx,List.filter_append,List.length_append,plIs_drv h (by omega),plI_drv (h k x hx),cntI_succ hx]
theorem plPs_drv {ps:List PortD} {j:Nat}:∀{k:Nat},k≤ps.length→((plPs ps k).filter (drvAt (j:Int))).length=cntP (ps.take k) j
 | 0,_=>by simp [plPs,cntP]
 | k+1,hk=>by
  obtain ⟨x,hx⟩:∃x,ps[k]?=some x:=⟨_,List.getElem?_eq_getElem (by omega)⟩
  rw [plPs_succ hx,List.filter_append,List.length_append,plPs_drv (by omega),cntP_succ hx,List.filter_cons,List.filter_nil]
  unfold drvAt
  by_cases e:x.dir=1<;>by_cases f:x.net=(j:Int)<;>simp [e,f]
section
variable {l:List CellD} {d:DesignD}
theorem drv_one (h:DesP l d) {j:Nat} (hj:j<d.nets.length):((placesL d).filter (drvAt (j:Int))).length=1:=by
 unfold placesL
 rw [List.filter_append,List.length_append,plIs_drv (fun i x hx=>by have:=(DesP.last h.lib (h.inst i x hx)).1;omega) (Nat.le_refl _),plPs_drv (Nat.le_refl _),List.take_length,List.take_length]
 exact h.drv j hj
theorem net_nat (h:DesP l d) {i:Nat} {p:PlaceD} (hp:(placesL d)[i]?=some p):∃j:Nat,p.net=(j:Int)∧j<d.nets.length:=by
 have hk:=inB_true (place_ok h (List.mem_of_getElem? hp)).net
 exact ⟨p.net.toNat,by omega,by omega⟩
theorem drv_first (h:DesP l d) {i:Nat} {p:PlaceD} (hp:(placesL d)[i]?=some p) (hd:p.drives=true):idxF (drvAt p.net) (placesL d)=(i:Int):=by
 obtain ⟨j,ej,hj⟩:=net_nat h hp
 have hpd:drvAt (j:Int) p=true:=by unfold drvAt;rw [ej,hd];simp
 rw [ej]
 refine idxF_hit hp hpd fun k y hk hy=>?_
 cases e:drvAt (j:Int) y with
 | false=>rfl
 | true =>
  have h1:=drv_one h hj
  have h2:=filter_two hk hy hp e hpd
  omega
theorem idxF_get {α:Type} {f:α→Bool} {xs:List α} {i:Nat} (h:idxF f xs=(i:Int)):∃x,xs[i]?=some x∧f x=true:=by
 unfold idxF at h
 cases e:xs.findIdx? f with
 | none=>rw [e] at h;dsimp only at h;omega
 | some k =>
  rw [e] at h
  dsimp only at h
  have hk:k=i:=by omega
  subst hk
  obtain ⟨hl,hf,-⟩:=List.findIdx?_eq_some_iff_getElem.1 e
  exact ⟨xs[k],List.getElem?_eq_getElem hl,hf⟩
theorem snkL_mem {n:Int} {ps:List PlaceD} {k i:Nat}:(i:Int)∈snkL n ps k↔i<k∧∃p,ps[i]?=some p∧snkAt n p=true:=by
 unfold snkL
 rw [List.mem_filterMap]
 constructor
 ·rintro ⟨a,ha,he⟩
  have ha:=List.mem_range.1 ha
  cases hp:ps[a]? with
  | none=>rw [hp] at he;cases he
  | some p =>
   rw [hp] at he
   dsimp only at he
   by_cases hs:snkAt n p=true
   ·rw [if_pos hs] at he
    injection he with he
    have:a=i:=by omega
    subst this
    exact ⟨ha,p,hp,hs⟩
   ·rw [if_neg hs] at he;cases he
 ·rintro ⟨hi,p,hp,hs⟩
  refine ⟨i,List.mem_range.2 hi,?_⟩
  rw [hp]
  dsimp only
  rw [if_pos hs]
theorem snkL_bd {n:Int} {ps:List PlaceD} {k:Nat} {a:Int} (h:a∈snkL n ps k):0≤a∧a<(k:Int):=by
 have h0:=h
 unfold snkL at h
 obtain ⟨i,hi,he⟩:=List.mem_filterMap.1 h
 have hi:=List.mem_range.1 hi
 cases hp:ps[i]? with
 | none=>rw [hp] at he;cases he
 | some p =>
  rw [hp] at he
  dsimp only at he
  by_cases hs:snkAt n p=true
  ·rw [if_pos hs] at he
   injection he with he
   omega
  ·rw [if_neg hs] at he;cases he
theorem snkL_up {n:Int} {ps:List PlaceD}:∀{k:Nat},k≤ps.length→(snkL n ps k).Pairwise (·<·)
 | 0,_=>by simp [snkL]
 | k+1,hk=>by
  obtain ⟨p,hp⟩:∃p,ps[k]?=some p:=⟨_,List.getElem?_eq_getElem (by omega)⟩
  rw [snkL_succ hp,List.pairwise_append]
  refine ⟨snkL_up (by omega),?_,fun a ha b hb=>?_⟩
  ·split<;>simp
  ·have h1:=snkL_bd ha
   split at hb
   ·simp at hb;omega
   ·cases hb
theorem sinks_up {n:Int} {i:Nat} {x y:Int} (hx:(sinksL d n)[i]?=some x) (hy:(sinksL d n)[i+1]?=some y):x<y:=by
 have h:=snkL_up (n:=n) (Nat.le_refl (placesL d).length)
 obtain ⟨h1,e1⟩:=List.getElem?_eq_some_iff.1 hx
 obtain ⟨h2,e2⟩:=List.getElem?_eq_some_iff.1 hy
 have:=List.pairwise_iff_getElem.1 h i (i+1) h1 h2 (by omega)
 subst e1 e2
 exact this
theorem snkL_count {n:Int} {ps:List PlaceD}:∀{k:Nat},k≤ps.length→(snkL n ps k).length=((ps.take k).filter (snkAt n)).length
 | 0,_=>by simp [snkL]
 | k+1,hk=>by
  obtain ⟨p,hp⟩:∃p,ps[k]?=some p:=⟨_,List.getElem?_eq_getElem (by omega)⟩
  rw [snkL_succ hp,List.take_add_one,hp,List.filter_append,List.length_append,List.length_append,snkL_count (by omega)]
  by_cases hs:snkAt n p=true<;>simp [hs]
theorem filter_split {α:Type} {g g1 g2:α→Bool} {xs:List α} (h:∀x∈xs,(g x=true∧(g1 x=true∧g2 x=false∨g1 x=false∧g2 x=true))∨(g x=false∧g1 x=false∧g2 x=false)):(xs.filter g).length=(xs.filter g1).length+(xs.filter g2).length:=by
 induction xs with
 | nil=>rfl
 | cons a l ih =>
  have ih:=ih fun x hx=>h x (List.mem_cons_of_mem _ hx)
  rcases h a (List.mem_cons_self ..) with ⟨h0,⟨h1,h2⟩|⟨h1,h2⟩⟩|⟨h0,h1,h2⟩<;>simp [h0,h1,h2,ih]<;>omega
/-- the sinks of the first nets, all together -/
def sumS (d:DesignD):Nat→Nat
 | 0=>0
 | k+1=>sumS d k+(sinksL d (k:Int)).length
theorem sumS_eq (h:DesP l d):∀k:Nat,sumS d k=((placesL d).filter fun p=>decide (p.net<(k:Int))&&!p.drives).length
 | 0=>by
  unfold sumS
  symm
  rw [List.length_eq_zero_iff,List.filter_eq_nil_iff]
  intro p hp
  have:=inB_true (place_ok h hp).net
  simp
  intro h9
  omega
 | k+1=>by
  unfold sumS
  rw [sumS_eq h k]
  unfold sinksL
  rw [snkL_count (Nat.le_refl _),List.take_length]
  symm
  refine filter_split fun p hp=>?_
  unfold snkAt
  by_cases h1:p.net<(k:Int)
  ·have h2:¬p.net=(k:Int):=by omega
   have h3:p.net<(k:Int)+1:=by omega
   cases hd:p.drives<;>simp [h1,h2,h3]<;>omega
  ·by_cases h2:p.net=(k:Int)
   ·have h3:p.net<(k:Int)+1:=by omega
    cases hd:p.drives<;>simp [h2]<;>omega
   ·have h3:¬p.net<(k:Int)+1:=by omega
    cases hd:p.drives<;>simp [h1,h2,h3]<;>omega
theorem sumD_eq (h:DesP l d):∀{k:Nat},k≤d.nets.length→((placesL d).filter fun p=>decide (p.net<(k:Int))&&p.drives).length=k
 | 0,_=>by
  rw [List.length_eq_zero_iff,List.filter_eq_nil_iff]
  intro p hp
  have:=inB_true (place_ok h hp).net
  simp
  intro h9
  omega
 | k+1,hk=>by
  have h1:=sumD_eq h (k:=k) (by omega)
  have h2:=drv_one h (j:=k) (by omega)
  have h3:((placesL d).filter fun p=>decide (p.net<((k+1:Nat):Int))&&p.drives).length=((placesL d).filter fun p=>decide (p.net<(k:Int))&&p.drives).length+((placesL d).filter (drvAt (k:Int))).length:=by
   refine filter_split fun p hp=>?_
   unfold drvAt
   by_cases h1:p.net<(k:Int)
   ·have h2:¬p.net=(k:Int):=by omega
    have h3:p.net<(k:Int)+1:=by omega
    cases hd:p.drives<;>simp [h1,h2,h3]<;>omega
   ·by_cases h2:p.net=(k:Int)
    ·have h3:p.net<(k:Int)+1:=by omega
     cases hd:p.drives<;>simp [h2]<;>omega
    ·have h3:¬p.net<(k:Int)+1:=by omega
     cases hd:p.drives<;>simp [h1,h2,h3]<;>omega
  rw [h3,h1,h2]
theorem sum_all (h:DesP l d):sumS d d.nets.length+d.nets.length=(placesL d).length:=by
 have h1:=sumS_eq h d.nets.length
 have h2:=sumD_eq h (Nat.le_refl _)
 have h3:((placesL d).filter fun _=>true).length=((placesL d).filter fun p=>decide (p.net<(d.nets.length:Int))&&!p.drives).length+((placesL d).filter fun p=>decide (p.net<(d.nets.length:Int))&&p.drives).length:=by
  refine filter_split fun p hp=>?_
  have:=inB_true (place_ok h hp).net
  have e:decide (p.net<(d.nets.length:Int))=true:=decide_eq_true (by omega)
  cases hd:p.drives<;>simp [e]
 rw [List.filter_eq_self.2 (fun _ _=>rfl)] at h3
 omega
theorem sumS_le (h:DesP l d) (k:Nat):sumS d k≤78:=by
 rw [sumS_eq h k]
 exact Nat.le_trans (List.length_filter_le _ _) (places_len h)
/-- places lie apart -/
def apart (p q:PlaceD):Prop:=¬(p.inst=q.inst∧p.pin=q.pin)
theorem plI_apart {i:Nat} {x:InstD} {q:Nat}:(plI i x q).Pairwise apart:=by
 unfold plI
 rw [List.pairwise_map]
 exact List.pairwise_lt_range.imp fun h=>by unfold apart;dsimp only;omega
theorem plIs_mem {xs:List InstD} {k:Nat} {p:PlaceD} (h:p∈plIs xs k):0≤p.inst∧p.inst<(k:Int):=by
 unfold plIs at h
 obtain ⟨i,hi,hp⟩:=List.mem_flatMap.1 h
 have hi:=List.mem_range.1 hi
 cases hx:xs[i]? with
 | none=>rw [hx] at hp;cases hp
 | some x =>
  rw [hx] at hp
  dsimp only at hp
  unfold plI at hp
  obtain ⟨k',-,rfl⟩:=List.mem_map.1 hp
  dsimp only
  omega
theorem plIs_apart {xs:List InstD}:∀{k:Nat},k≤xs.length→(plIs xs k).Pairwise apart
 | 0,_=>by simp [plIs]
 | k+1,hk=>by
  obtain ⟨x,hx⟩:∃x,xs[k]?=some x:=⟨_,List.getElem?_eq_getElem (by omega)⟩
  rw [plIs_succ hx,List.pairwise_append]
  refine ⟨plIs_apart (by omega),plI_apart,fun a ha b hb=>?_⟩
  have h1:=plIs_mem ha
  unfold plI at hb
  obtain ⟨k',-,rfl⟩:=List.mem_map.1 hb
  unfold apart
  dsimp only
  omega
theorem plPs_mem {ps:List PortD} {k:Nat} {p:PlaceD} (h:p∈plPs ps k):p.inst=-1∧p.pin<(k:Int):=by
 unfold plPs at h
 obtain ⟨i,hi,hp⟩:=List.mem_flatMap.1 h
 have hi:=List.mem_range.1 hi
 cases hx:ps[i]? with
 | none=>rw [hx] at hp;cases hp
 | some x =>
  rw [hx] at hp
  simp only [List.mem_singleton] at hp
  subst hp
  exact ⟨rfl,by dsimp only;omega⟩
theorem plPs_apart {ps:List PortD}:∀{k:Nat},k≤ps.length→(plPs ps k).Pairwise apart
 | 0,_=>by simp [plPs]
 | k+1,hk=>by
  obtain ⟨x,hx⟩:∃x,ps[k]?=some x:=⟨_,List.getElem?_eq_getElem (by omega)⟩
  rw [plPs_succ hx,List.pairwise_append]
  refine ⟨plPs_apart (by omega),by simp,fun a ha b hb=>?_⟩
  have h1:=plPs_mem ha
  simp only [List.mem_singleton] at hb
  subst hb
  unfold apart
  dsimp only
  omega
theorem places_apart (d:DesignD):(placesL d).Pairwise apart:=by
 unfold placesL
 rw [List.pairwise_append]
 refine ⟨plIs_apart (Nat.le_refl _),plPs_apart (Nat.le_refl _),fun a ha b hb=>?_⟩
 have h1:=plIs_mem ha
 have h2:=plPs_mem hb
 unfold apart
 omega
theorem at_inj {i j:Nat} {p q:PlaceD} (hp:(placesL d)[i]?=some p) (hq:(placesL d)[j]?=some q) (h1:p.inst=q.inst) (h2:p.pin=q.pin):i=j:=by
 obtain ⟨li,e1⟩:=List.getElem?_eq_some_iff.1 hp
 obtain ⟨lj,e2⟩:=List.getElem?_eq_some_iff.1 hq
 have h:=List.pairwise_iff_getElem.1 (places_apart d)
 rcases Nat.lt_trichotomy i j with hl|hl|hl
 ·have:=h i j li lj hl
  rw [e1,e2] at this
  exact absurd ⟨h1,h2⟩ this
 ·exact hl
 ·have:=h j i lj li hl
  rw [e1,e2] at this
  exact absurd ⟨h1.symm,h2.symm⟩ this
theorem find_law {i:Nat} {p:PlaceD} (hp:(placesL d)[i]?=some p):idxF (isAt p.inst p.pin) (placesL d)=(i:Int):=by
 refine idxF_hit hp (by unfold isAt;simp) fun k y hk hy=>?_
 cases e:isAt p.inst p.pin y with
 | false=>rfl
 | true =>
  unfold isAt at e
  simp at e
  have:=at_inj hy hp e.1 e.2
  omega
theorem name_slash {s:ByteArray} (h:nameB s=true):(47:UInt8)∉s.data.toList:=by
 intro hm
 obtain ⟨k,hk⟩:=List.getElem?_of_mem hm
 have:=nameL_no hk (by decide) (.inl (by decide))
 unfold nameB at h
 rw [this] at h
 cases h
theorem slash_split {a b a' b':List UInt8} (ha:(47:UInt8)∉a) (ha':(47:UInt8)∉a') (h:a++47::b=a'++47::b'):a=a'∧b=b':=by
 induction a generalizing a' with
 | nil =>
  cases a' with
  | nil=>simp at h;exact ⟨rfl,h⟩
  | cons x t =>
   simp at h
   exact absurd (by rw [←h.1];simp) ha'
 | cons y s ih =>
  cases a' with
  | nil =>
   simp at h
   exact absurd (by rw [h.1];simp) ha
  | cons x t =>
   simp at h
   obtain ⟨e1,e2⟩:=ih (fun hm=>ha (List.mem_cons_of_mem _ hm)) (fun hm=>ha' (List.mem_cons_of_mem _ hm)) h.2
   exact ⟨by rw [h.1,e1],e2⟩
theorem slash_data (x q:ByteArray):(x++⟨#[47]⟩++q).data.toList=x.data.toList++47::q.data.toList:=by
 simp [ByteArray.data_append]
theorem bytes_eq {a b:ByteArray} (h:a.data.toList=b.data.toList):a=b:=by
 cases a;cases b
 simp at h
 subst h
 rfl
theorem names_apart {ns:List ByteArray} (h:NamesP ns) {i j:Nat} {s:ByteArray} (hi:ns[i]?=some s) (hj:ns[j]?=some s):i=j:=by
 rcases Nat.lt_trichotomy i j with hl|hl|hl
 ·exact absurd rfl (h.2 i j s s hl hi hj)
 ·exact hl
 ·exact absurd rfl (h.2 j i s s hl hj hi)
theorem name_inj (h:DesP l d) {i j:Nat} {p q:PlaceD} (hp:(placesL d)[i]?=some p) (hq:(placesL d)[j]?=some q) (hn:nameOf l d p=nameOf l d q):i=j:=by
 have key:∀{p q:PlaceD} {i' k' kp:Nat} {x:InstD} {c:CellD} {y:PinD} {o:PortD},p.inst=(i':Int)→p.pin=(k':Int)→d.insts[i']?=some x→l[x.cell.toNat]?=some c→c.pins[k']?=some y→q.inst=-1→q.pin=(kp:Int)→d.ports[kp]?=some o→nameOf l d p≠nameOf l d q:=by
  intro p q i' k' kp x c y o e1 e2 hx hc hy e3 e4 ho e
  rw [nameOf_pin (by omega) (pinAt_of e1 e2 hx hc hy),nameOf_port (by omega) e4 ho] at e
  have hs:(47:UInt8)∉o.name.data.toList:=name_slash (h.pname.1 kp _ (by rw [List.getElem?_map,ho];rfl))
  rw [←e,slash_data] at hs
  exact hs (by simp)
 rcases (place_ok h (List.mem_of_getElem? hp)).at_ with ⟨i1,k1,x1,c1,y1,a1,a2,a3,a4,a5,a6⟩|⟨a1,k1,o1,a2,a3⟩
 ·rcases (place_ok h (List.mem_of_getElem? hq)).at_ with ⟨i2,k2,x2,c2,y2,b1,b2,b3,b4,b5,b6⟩|⟨b1,k2,o2,b2,b3⟩
  ·rw [nameOf_pin (by omega) (pinAt_of a1 a2 a3 a5 a6),nameOf_pin (by omega) (pinAt_of b1 b2 b3 b5 b6)] at hn
   have e:(x1.name++⟨#[47]⟩++y1.name).data.toList=(x2.name++⟨#[47]⟩++y2.name).data.toList:=congrArg (fun s:ByteArray=>s.data.toList) hn
   rw [slash_data,slash_data] at e
   obtain ⟨e1,e2⟩:=slash_split (name_slash (inst_name h a3)) (name_slash (inst_name h b3)) e
   have e1:=bytes_eq e1
   have e2:=bytes_eq e2
   have hi:i1=i2:=names_apart h.iname (s:=x1.name) (by rw [List.getElem?_map,a3];rfl) (by rw [List.getElem?_map,b3,e1];rfl)
   subst hi
   rw [a3] at b3
   injection b3 with b3
   subst b3
   rw [a5] at b5
   injection b5 with b5
   subst b5
   have hk:k1=k2:=by
    have hpn:=(h.lib.1 _ _ a5).pins.2.2
    rcases Nat.lt_trichotomy k1 k2 with hl|hl|hl
    ·exact absurd e2 (hpn k1 k2 _ _ hl a6 b6)
    ·exact hl
    ·exact absurd e2.symm (hpn k2 k1 _ _ hl b6 a6)
   subst hk
   exact at_inj hp hq (by rw [a1,b1]) (by rw [a2,b2])
  ·exact absurd hn (key a1 a2 a3 a5 a6 b1 b2 b3)
 ·rcases (place_ok h (List.mem_of_getElem? hq)).at_ with ⟨i2,k2,x2,c2,y2,b1,b2,b3,b4,b5,b6⟩|⟨b1,k2,o2,b2,b3⟩
  ·exact absurd hn.symm (key b1 b2 b3 b5 b6 a1 a2 a3)
  ·rw [nameOf_port (by omega) a2 a3,nameOf_port (by omega) b2 b3] at hn
   have hk:k1=k2:=names_apart h.pname (s:=o1.name) (by rw [List.getElem?_map,a3];rfl) (by rw [List.getElem?_map,b3,hn];rfl)
   subst hk
   exact at_inj hp hq (by rw [a1,b1]) (by rw [a2,b2])
/-- a place answers as the law says -/
structure PlaceLaw (l:List CellD) (d:DesignD) (p:Nat):Prop where
 named:namedV l d (nameV l d (p:Int))=(p:Int)
 found:findV l d (instV l d (p:Int)) (pinV l d (p:Int))=(p:Int)
 drives:(drvV l d (netV l d (p:Int))=(p:Int))↔¬(p:Int)∈sinksV l d (netV l d (p:Int))
 cap:0≤capV l d (p:Int)
theorem cap_pos (h:DesP l d) {p:PlaceD} (hk:PlaceOk l d p):0≤capOf l d p:=by
 rcases hk.at_ with ⟨i1,k1,x1,c1,y1,a1,a2,a3,a4,a5,a6⟩|⟨a1,-⟩
 ·rw [capOf_pin (by omega) (pinAt_of a1 a2 a3 a5 a6)]
  exact (inB_true ((h.lib.1 _ _ a5).pins.2.1 k1 y1 a6).2.1).1
 ·rw [capOf_port (by omega)]
  exact Int.le_refl _
theorem place_law (h:DesP l d) {p:Nat} (hp:p<(placesL d).length):PlaceLaw l d p:=by
 have hb:desB l d=true:=pB_iff.2 h
 have ha:atB l d (p:Int)=true:=by
  rw [atB_eq hb]
  unfold inB
  simp
  omega
 obtain ⟨-,-,-,hv,hk⟩:=atB_true ha
 rw [Int.toNat_natCast] at hv
 have eN:nameV l d (p:Int)=nameOf l d (atV l d p):=by unfold nameV;rw [if_pos ha]
 have eI:instV l d (p:Int)=(atV l d p).inst:=by unfold instV;rw [if_pos ha]
 have eP:pinV l d (p:Int)=(atV l d p).pin:=by unfold pinV;rw [if_pos ha]
 have eT:netV l d (p:Int)=(atV l d p).net:=by unfold netV;rw [if_pos ha]
 have eC:capV l d (p:Int)=capOf l d (atV l d p):=by unfold capV;rw [if_pos ha]
 refine ⟨?_,?_,?_,?_⟩
 ·rw [eN]
  unfold namedV
  rw [if_pos hb]
  refine idxF_hit hv (by simp) fun k y hlt hy=>?_
  cases e:decide (nameOf l d y=nameOf l d (atV l d p)) with
  | false=>rfl
  | true =>
   have:=name_inj h hy hv (of_decide_eq_true e)
   omega
 ·rw [eI,eP]
  unfold findV
  rw [if_pos hb]
  exact find_law hv
 ·rw [eT]
  unfold drvV sinksV
  rw [if_pos hb,if_pos hb]
  unfold sinksL
  rw [snkL_mem]
  cases hd:(atV l d p).drives with
  | true =>
   refine ⟨fun _ ⟨_,q,hq,hs⟩=>?_,fun _=>drv_first h hv hd⟩
   rw [hv] at hq
   injection hq with hq
   subst hq
   unfold snkAt at hs
   rw [hd] at hs
   simp at hs
  | false =>
   refine ⟨fun e=>?_,fun hn=>?_⟩
   ·obtain ⟨x,hx,hf⟩:=idxF_get e
    rw [hv] at hx
    injection hx with hx
    subst hx
    unfold drvAt at hf
    rw [hd] at hf
    simp at hf
   ·exact absurd ⟨hp,_,hv,by unfold snkAt;rw [hd];simp⟩ hn
 ·rw [eC]
  exact cap_pos h hk
end
end Go.Proofs.YtlnpefiipdkafaaGreatDoor
/-
  Places and pins as the walk meets them.
-/
namespace Go.Proofs.YtlnpefiipdkafaaGreatDoor
open Go.RowKit
theorem ret_two {a b c d:Int} (h:a=b) (k:c=d):Ending.returned (.tuple #[.int .i64 a,.int .i64 c])=.returned (.tuple #[.int .i64 b,.int .i64 d]):=by rw [h,k]
theorem ret_str {a b:ByteArray} (h:a=b):Ending.returned (.string a)=.returned (.string b):=by rw [h]
theorem place_at {w:World} {A:Option Addr} {n:Nat} {xs:List PlaceD} (h:RPlaces w (.slice A xs.length n) xs) {i:Nat} {x:PlaceD} (hi:xs[i]?=some x):∃b off:Nat,A=some ⟨b,off,none⟩∧w.cell? ⟨b,off+i * 4,none⟩=some (.int .i64 x.inst)∧w.cell? ⟨b,off+i * 4+1,none⟩=some (.int .i64 x.pin)∧w.cell? ⟨b,off+i * 4+2,none⟩=some (.int .i64 x.net)∧w.cell? ⟨b,off+i * 4+3,none⟩=some (.bool x.drives):=by
 obtain ⟨A',n',e,-,-,hx⟩:=RList.form h
 injection e with e1 e2
 subst e1
 obtain ⟨b,off,rfl,ds,hl1,hcs,hr⟩:=hx i x hi
 unfold RPlace at hr
 subst hr
 exact ⟨b,off,rfl,by simpa using hcs 0 _ rfl,by simpa [Nat.add_assoc] using hcs 1 _ rfl,by simpa [Nat.add_assoc] using hcs 2 _ rfl,by simpa [Nat.add_assoc] using hcs 3 _ rfl⟩
theorem pin_at {w:World} {A:Option Addr} {n:Nat} {xs:List PinD} (h:RPins w (.slice A xs.length n) xs) {i:Nat} {x:PinD} (hi:xs[i]?=some x):∃b off:Nat,A=some ⟨b,off,none⟩∧w.cell? ⟨b,off+i * 4,none⟩=some (.string x.name)∧w.cell? ⟨b,off+i * 4+1,none⟩=some (.int .i64 x.dir)∧w.cell? ⟨b,off+i * 4+2,none⟩=some (.int .i64 x.cap)∧x.name.size≤maxLen:=by
 obtain ⟨A',n',e,-,-,hx⟩:=RList.form h
 injection e with e1 e2
 subst e1
 obtain ⟨b,off,rfl,ds,hl1,hcs,hr⟩:=hx i x hi
 obtain ⟨d0,d1,d2,d3,rfl⟩:=list4 hl1
 obtain ⟨rfl,rfl,rfl,rfl,hz⟩:=hr.parts
 exact ⟨b,off,rfl,by simpa using hcs 0 _ rfl,by simpa [Nat.add_assoc] using hcs 1 _ rfl,by simpa [Nat.add_assoc] using hcs 2 _ rfl,hz⟩
end Go.Proofs.YtlnpefiipdkafaaGreatDoor
