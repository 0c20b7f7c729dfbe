/-
  What the functions over a design's places answer, in plain Lean.
-/
import Derived.Test.YtlnpefiipdkafaaGreatDoorHA
import Derived.Test.YtlnpefiipdkafaaGreatDoorHB
namespace Go.Proofs.YtlnpefiipdkafaaGreatDoor
open Go.RowKit
def zPl:PlaceD:=⟨0,0,0,false⟩
def plV (p:PlaceD):Value:=.agg #[.int .i64 p.inst,.int .i64 p.pin,.int .i64 p.net,.bool p.drives]
noncomputable def atB (l:List CellD) (d:DesignD) (n:Int):Bool:=desB l d&&inB n 0 (((placesL d).length:Int) - 1)
noncomputable def atV (l:List CellD) (d:DesignD) (n:Int):PlaceD:=if atB l d n=true then (placesL d).getD n.toNat zPl else zPl
theorem atB_no {l:List CellD} {d:DesignD} {n:Int} (h:desB l d=false):atB l d n=false:=by unfold atB;rw [h];rfl
theorem atB_eq {l:List CellD} {d:DesignD} {n:Int} (h:desB l d=true):atB l d n=inB n 0 (((placesL d).length:Int) - 1):=by unfold atB;rw [h];rfl
theorem atV_no {l:List CellD} {d:DesignD} {n:Int} (h:atB l d n=false):atV l d n=zPl:=if_neg (by rw [h];decide)
theorem atB_true {l:List CellD} {d:DesignD} {n:Int} (h:atB l d n=true):DesP l d∧0≤n∧n.toNat<(placesL d).length∧(placesL d)[n.toNat]?=some (atV l d n)∧PlaceOk l d (atV l d n):=by
 have h0:=h
 unfold atB at h
 rw [Bool.and_eq_true] at h
 obtain ⟨h1,h2⟩:=h
 have hb:=inB_true h2
 have hlt:n.toNat<(placesL d).length:=by omega
 have e:(placesL d)[n.toNat]?=some (atV l d n):=by
  unfold atV
  rw [if_pos h0,List.getD_eq_getElem?_getD,List.getElem?_eq_getElem hlt];rfl
 have hp:DesP l d:=pB_iff.1 h1
 exact ⟨hp,hb.1,hlt,e,place_ok hp (List.mem_of_getElem? e)⟩
noncomputable def countV (l:List CellD) (d:DesignD):Int:=if desB l d=true then ((placesL d).length:Int) else -1
def isAt (i q:Int) (p:PlaceD):Bool:=decide (p.inst=i)&&decide (p.pin=q)
def drvAt (n:Int) (p:PlaceD):Bool:=decide (p.net=n)&&p.drives
def snkAt (n:Int) (p:PlaceD):Bool:=decide (p.net=n)&&!p.drives
noncomputable def findV (l:List CellD) (d:DesignD) (i q:Int):Int:=if desB l d=true then idxF (isAt i q) (placesL d) else -1
noncomputable def drvV (l:List CellD) (d:DesignD) (n:Int):Int:=if desB l d=true then idxF (drvAt n) (placesL d) else -1
theorem drv_out {l:List CellD} {d:DesignD} {n:Int} (h:DesP l d) (hn:netIn d n=false):idxF (drvAt n) (placesL d)=-1 :=
 idxF_miss fun j y _ hy=>by
  have hk:=(place_ok h (List.mem_of_getElem? hy)).net
  by_cases e:y.net=n
  ·rw [e,hn] at hk;cases hk
  ·unfold drvAt;simp [e]
noncomputable def instV (l:List CellD) (d:DesignD) (n:Int):Int:=if atB l d n=true then (atV l d n).inst else -1
noncomputable def pinV (l:List CellD) (d:DesignD) (n:Int):Int:=if atB l d n=true then (atV l d n).pin else -1
noncomputable def netV (l:List CellD) (d:DesignD) (n:Int):Int:=if atB l d n=true then (atV l d n).net else -1
/-- the cell's pin of a place at an instance -/
def pinAt (l:List CellD) (d:DesignD) (p:PlaceD):Option (InstD×PinD) :=
 match d.insts[p.inst.toNat]? with
 | some x=>match l[x.cell.toNat]? with
  | some c=>match c.pins[p.pin.toNat]? with
   | some q=>some (x,q)
   | none=>none
  | none=>none
 | none=>none
def capOf (l:List CellD) (d:DesignD) (p:PlaceD):Int:=if p.inst<0 then 0 else match pinAt l d p with|some (_,q)=>q.cap|none=>0
noncomputable def capV (l:List CellD) (d:DesignD) (n:Int):Int:=if atB l d n=true then capOf l d (atV l d n) else -1
theorem pinAt_of {l:List CellD} {d:DesignD} {p:PlaceD} {i k:Nat} {x:InstD} {c:CellD} {q:PinD} (hi:p.inst=(i:Int)) (hk:p.pin=(k:Int)) (hx:d.insts[i]?=some x) (hc:l[x.cell.toNat]?=some c) (hq:c.pins[k]?=some q):pinAt l d p=some (x,q):=by
 unfold pinAt
 rw [hi,hk,Int.toNat_natCast,Int.toNat_natCast,hx]
 simp only [hc,hq]
theorem capOf_pin {l:List CellD} {d:DesignD} {p:PlaceD} {x:InstD} {q:PinD} (h:0≤p.inst) (hp:pinAt l d p=some (x,q)):capOf l d p=q.cap:=by
 unfold capOf;rw [if_neg (by omega),hp]
theorem capOf_port {l:List CellD} {d:DesignD} {p:PlaceD} (h:p.inst<0):capOf l d p=0:=if_pos h
/-- the sinks of a net: the numbers of its places that do not drive it -/
def snkL (n:Int) (ps:List PlaceD) (k:Nat):List Int:=(List.range k).filterMap fun (i:Nat)=>match ps[i]? with|some p=>if snkAt n p=true then some (i:Int) else none|none=>none
theorem snkL_succ {n:Int} {ps:List PlaceD} {k:Nat} {p:PlaceD} (h:ps[k]?=some p):snkL n ps (k+1)=snkL n ps k++(if snkAt n p=true then [(k:Int)] else []):=by
 unfold snkL
 rw [List.range_succ,List.filterMap_append]
 congr 1
 by_cases e:snkAt n p=true<;>simp [h,e]
theorem snkL_len (n:Int) (ps:List PlaceD) (k:Nat):(snkL n ps k).length≤k:=by
 unfold snkL
 have:=List.length_filterMap_le (fun (i:Nat)=>match ps[i]? with|some p=>if snkAt n p=true then some (i:Int) else none|none=>none) (List.range k)
 simpa using this
def sinksL (d:DesignD) (n:Int):List Int:=snkL n (placesL d) (placesL d).length
theorem snk_out {l:List CellD} {d:DesignD} {n:Int} (h:DesP l d) (hn:netIn d n=false):sinksL d n=[]:=by
 unfold sinksL snkL
 rw [List.filterMap_eq_nil_iff]
 intro i _
 cases hp:(placesL d)[i]? with
 | none=>rfl
 | some p =>
  have hk:=(place_ok h (List.mem_of_getElem? hp)).net
  have e:snkAt n p=false:=by
   by_cases e:p.net=n
   ·rw [e,hn] at hk;cases hk
   ·unfold snkAt;simp [e]
  simp [e]
noncomputable def sinksV (l:List CellD) (d:DesignD) (n:Int):List Int:=if desB l d=true then sinksL d n else []
end Go.Proofs.YtlnpefiipdkafaaGreatDoor
/-
  Places and pins as the walk meets them.
-/
namespace Go.Proofs.YtlnpefiipdkafaaGreatDoor
open Go.RowKit
theorem ret_two {a b c d:Int} (h:a=b) (k:c=d):Ending.returned (.tuple #[.int .i64 a,.int .i64 c])=.returned (.tuple #[.int .i64 b,.int .i64 d]):=by rw [h,k]
theorem ret_str {a b:ByteArray} (h:a=b):Ending.returned (.string a)=.returned (.string b):=by rw [h]
theorem place_at {w:World} {A:Option Addr} {n:Nat} {xs:List PlaceD} (h:RPlaces w (.slice A xs.length n) xs) {i:Nat} {x:PlaceD} (hi:xs[i]?=some x):∃b off:Nat,A=some ⟨b,off,none⟩∧w.cell? ⟨b,off+i * 4,none⟩=some (.int .i64 x.inst)∧w.cell? ⟨b,off+i * 4+1,none⟩=some (.int .i64 x.pin)∧w.cell? ⟨b,off+i * 4+2,none⟩=some (.int .i64 x.net)∧w.cell? ⟨b,off+i * 4+3,none⟩=some (.bool x.drives):=by
 obtain ⟨A',n',e,-,-,hx⟩:=RList.form h
 injection e with e1 e2
 subst e1
 obtain ⟨b,off,rfl,ds,hl1,hcs,hr⟩:=hx i x hi
 unfold RPlace at hr
 subst hr
 exact ⟨b,off,rfl,by simpa using hcs 0 _ rfl,by simpa [Nat.add_assoc] using hcs 1 _ rfl,by simpa [Nat.add_assoc] using hcs 2 _ rfl,by simpa [Nat.add_assoc] using hcs 3 _ rfl⟩
theorem pin_at {w:World} {A:Option Addr} {n:Nat} {xs:List PinD} (h:RPins w (.slice A xs.length n) xs) {i:Nat} {x:PinD} (hi:xs[i]?=some x):∃b off:Nat,A=some ⟨b,off,none⟩∧w.cell? ⟨b,off+i * 4,none⟩=some (.string x.name)∧w.cell? ⟨b,off+i * 4+1,none⟩=some (.int .i64 x.dir)∧w.cell? ⟨b,off+i * 4+2,none⟩=some (.int .i64 x.cap)∧x.name.size≤maxLen:=by
 obtain ⟨A',n',e,-,-,hx⟩:=RList.form h
 injection e with e1 e2
 subst e1
 obtain ⟨b,off,rfl,ds,hl1,hcs,hr⟩:=hx i x hi
 obtain ⟨d0,d1,d2,d3,rfl⟩:=list4 hl1
 obtain ⟨rfl,rfl,rfl,rfl,hz⟩:=hr.parts
 exact ⟨b,off,rfl,by simpa using hcs 0 _ rfl,by simpa [Nat.add_assoc] using hcs 1 _ rfl,by simpa [Nat.add_assoc] using hcs 2 _ rfl,hz⟩
end Go.Proofs.YtlnpefiipdkafaaGreatDoor
