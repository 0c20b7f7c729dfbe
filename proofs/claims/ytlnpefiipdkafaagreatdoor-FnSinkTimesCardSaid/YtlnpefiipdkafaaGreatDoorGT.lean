/-
  What a valid block is; loads and delays of a wire's nodes, in plain Lean.
-/
import Derived.Test.YtlnpefiipdkafaaGreatDoorHJ
import Derived.Test.YtlnpefiipdkafaaGreatDoorGU
import Derived.Test.YtlnpefiipdkafaaGreatDoorGB
import Derived.Test.YtlnpefiipdkafaaGreatDoorGA
namespace Go.Proofs.YtlnpefiipdkafaaGreatDoor
open Go.RowKit
structure BlkP (l:List CellD) (d:DesignD) (ws:List WireD):Prop where
 des:DesP l d
 len:ws.length=d.nets.length
 wire:∀(n:Nat) (x:WireD),ws[n]?=some x→wireB x ((sinksL d (n:Int)).length:Int)=true
noncomputable def blkB (l:List CellD) (d:DesignD) (ws:List WireD):Bool:=pB (BlkP l d ws)
def addAt (xs:List Int) (p:Nat) (v:Int):List Int:=xs.set p (xs.getD p 0+v)
theorem addAt_len (xs:List Int) (p:Nat) (v:Int):(addAt xs p v).length=xs.length:=by simp [addAt]
theorem addAt_at {xs:List Int} {p:Nat} {v:Int} (h:p<xs.length) (j:Nat):(addAt xs p v).getD j 0=if j=p then xs.getD p 0+v else xs.getD j 0:=by
 unfold addAt
 rw [List.getD_eq_getElem?_getD,List.getElem?_set]
 by_cases e:p=j
 ·subst e;simp [h]
 ·rw [if_neg e,if_neg (fun h=>e h.symm),←List.getD_eq_getElem?_getD]
theorem sum_addAt:∀{xs:List Int} {p:Nat} {v:Int},p<xs.length→(addAt xs p v).sum=xs.sum+v
 | [],p,v,h=>by simp at h
 | x::xs,0,v,_=>by simp [addAt];omega
 | x::xs,p+1,v,h=>by
  have ih:=sum_addAt (xs:=xs) (p:=p) (v:=v) (by simpa using h)
  simp only [addAt,List.getD_cons_succ,List.set_cons_succ,List.sum_cons] at ih ⊢
  omega
theorem take_addAt {xs:List Int} {p m:Nat} {v:Int} (h:p<m):(addAt xs p v).take m=addAt (xs.take m) p v:=by
 unfold addAt
 rw [List.take_set]
 congr 1
 rw [List.getD_eq_getElem?_getD,List.getD_eq_getElem?_getD,List.getElem?_take_of_lt h]
/-- no entry is negative -/
def NonNeg (xs:List Int):Prop:=∀j,0≤xs.getD j 0
theorem NonNeg.add {xs:List Int} {p:Nat} {v:Int} (h:NonNeg xs) (hv:0≤v) (hp:p<xs.length):NonNeg (addAt xs p v):=fun j=>by
 rw [addAt_at hp]
 split
 ·have:=h p;omega
 ·exact h j
theorem sum_nonneg:∀{xs:List Int},NonNeg xs→0≤xs.sum
 | [],_=>by simp
 | x::xs,h=>by
  have h0:0≤x:=h 0
  have ih:=sum_nonneg (xs:=xs) fun j=>h (j+1)
  rw [List.sum_cons]
  omega
theorem le_sum:∀{xs:List Int} {j:Nat},NonNeg xs→xs.getD j 0≤xs.sum
 | [],j,_=>by simp
 | x::xs,0,h=>by
  have ih:=sum_nonneg (xs:=xs) fun j=>h (j+1)
  show x≤_
  rw [List.sum_cons]
  omega
 | x::xs,j+1,h=>by
  have h0:0≤x:=h 0
  have ih:=le_sum (xs:=xs) (j:=j) fun j=>h (j+1)
  show xs.getD j 0≤_
  rw [List.sum_cons]
  omega
theorem NonNeg.take {xs:List Int} (h:NonNeg xs) (m:Nat):NonNeg (xs.take m):=fun j=>by
 rw [List.getD_eq_getElem?_getD,List.getElem?_take]
 split
 ·rw [←List.getD_eq_getElem?_getD];exact h j
 ·simp
theorem sum_le_all:∀{xs:List Int} {B:Int},0≤B→(∀x∈xs,x≤B)→xs.sum≤B * xs.length
 | [],B,_,_=>by simp
 | x::xs,B,hB,h=>by
  have h0:=h x (by simp)
  have ih:=sum_le_all (xs:=xs) hB fun y hy=>h y (by simp [hy])
  rw [List.sum_cons,List.length_cons,Int.natCast_succ,Int.mul_add]
  omega

/-- the sinks' capacities come onto their nodes -/
def ldA (cap sink caps:List Int):Nat→List Int
 | 0=>cap
 | i+1=>addAt (ldA cap sink caps i) (sink.getD i 0).toNat (caps.getD i 0)
/-- the loads go up to the parents, the last node first -/
def ldB (par xs0:List Int):Nat→List Int
 | 0=>xs0
 | j+1=>addAt (ldB par xs0 j) (par.getD (xs0.length - 1 - j) 0).toNat ((ldB par xs0 j).getD (xs0.length - 1 - j) 0)
theorem ldA_len (cap sink caps:List Int):∀i,(ldA cap sink caps i).length=cap.length
 | 0=>rfl
 | i+1=>by show (addAt _ _ _).length=_;rw [addAt_len,ldA_len]
theorem ldB_len (par xs0:List Int):∀j,(ldB par xs0 j).length=xs0.length
 | 0=>rfl
 | j+1=>by show (addAt _ _ _).length=_;rw [addAt_len,ldB_len]
theorem ldA_ok {cap sink caps:List Int} {S:Int} (hc:NonNeg cap) (hS:cap.sum≤S) (hs:∀i,i<sink.length→0≤sink.getD i 0∧(sink.getD i 0).toNat<cap.length) (hk:∀j,0≤caps.getD j 0∧caps.getD j 0≤500) :
  ∀i,i≤sink.length→NonNeg (ldA cap sink caps i)∧(ldA cap sink caps i).sum≤S+500 * (i:Int)
 | 0,_=>⟨hc,by show cap.sum≤_;omega⟩
 | i+1,h=>by
  obtain ⟨h1,h2⟩:=ldA_ok hc hS hs hk i (by omega)
  have hp:=(hs i (by omega)).2
  have hv:=hk i
  refine ⟨NonNeg.add h1 hv.1 (by rw [ldA_len];exact hp),?_⟩
  show (addAt _ _ _).sum≤_
  rw [sum_addAt (by rw [ldA_len];exact hp)]
  omega
theorem take_succ_sum {xs:List Int} {m:Nat} (h:m<xs.length):(xs.take (m+1)).sum=(xs.take m).sum+xs.getD m 0:=by
 rw [List.take_add_one,List.getElem?_eq_getElem h,List.sum_append,List.getD_eq_getElem?_getD,List.getElem?_eq_getElem h]
 simp
theorem ldB_ok {par xs0:List Int} {T:Int} (hn:NonNeg xs0) (hT:xs0.sum≤T) (hpar:∀i,1≤i→i<xs0.length→0≤par.getD i 0∧(par.getD i 0).toNat<i) :
  ∀j,j<xs0.length→NonNeg (ldB par xs0 j)∧(∀q,(ldB par xs0 j).getD q 0≤T)∧((ldB par xs0 j).take (xs0.length - j)).sum≤T
 | 0,_=>⟨hn,fun q=>Int.le_trans (le_sum hn) hT,by show (xs0.take _).sum≤T;rw [Nat.sub_zero,List.take_length];exact hT⟩
 | j+1,h=>by
  obtain ⟨h1,h2,h3⟩:=ldB_ok hn hT hpar j (by omega)
  obtain ⟨i,hi⟩:∃i,i=xs0.length - 1 - j:=⟨_,rfl⟩
  obtain ⟨p0,p1⟩:=hpar i (by omega) (by omega)
  have hl:=ldB_len par xs0 j
  have e:ldB par xs0 (j+1)=addAt (ldB par xs0 j) (par.getD i 0).toNat ((ldB par xs0 j).getD i 0):=by rw [hi];rfl
  rw [e]
  have hs:=take_succ_sum (xs:=ldB par xs0 j) (m:=i) (by omega)
  rw [show i+1=xs0.length - j by omega] at hs
  have ht:((addAt (ldB par xs0 j) (par.getD i 0).toNat ((ldB par xs0 j).getD i 0)).take (xs0.length - (j+1))).sum≤T:=by
   rw [show xs0.length - (j+1)=i by omega,take_addAt p1,sum_addAt (by rw [List.length_take];omega)]
   omega
  refine ⟨NonNeg.add h1 (h1 i) (by omega),fun q=>?_,ht⟩
  rw [addAt_at (by omega)]
  split
  ·have hnn:=(NonNeg.add h1 (h1 i) (show (par.getD i 0).toNat<(ldB par xs0 j).length by omega)).take i
   have hle:=le_sum (j:=(par.getD i 0).toNat) hnn
   rw [show xs0.length - (j+1)=i by omega] at ht
   rw [List.getD_eq_getElem?_getD,List.getElem?_take_of_lt p1,←List.getD_eq_getElem?_getD,addAt_at (by omega),if_pos rfl] at hle
   omega
  ·exact h2 q
/-- delays of the nodes up to the i-th -/
def dlS (par res lds:List Int):Nat→List Int
 | 0=>[0]
 | i+1=>dlS par res lds i++[(dlS par res lds i).getD (par.getD (i+1) 0).toNat 0+res.getD (i+1) 0 * lds.getD (i+1) 0]
theorem dlS_len (par res lds:List Int):∀i,(dlS par res lds i).length=i+1
 | 0=>rfl
 | i+1=>by show (dlS par res lds i++[_]).length=_;rw [List.length_append,dlS_len];rfl
theorem dlS_ok {par res lds:List Int} (hres:∀i,0≤res.getD i 0∧res.getD i 0≤1000) (hld:∀i,0≤lds.getD i 0∧lds.getD i 0≤43000) :
  ∀i j,0≤(dlS par res lds i).getD j 0∧(dlS par res lds i).getD j 0≤43000000 * (i:Int)
 | 0,j=>by
  cases j with
  | zero=>simp [dlS]
  | succ j=>simp [dlS]
 | i+1,j=>by
  show 0≤(dlS par res lds i++[(dlS par res lds i).getD (par.getD (i+1) 0).toNat 0+res.getD (i+1) 0 * lds.getD (i+1) 0]).getD j 0∧(dlS par res lds i++[(dlS par res lds i).getD (par.getD (i+1) 0).toNat 0+res.getD (i+1) 0 * lds.getD (i+1) 0]).getD j 0≤_
  have ih:=dlS_ok (par:=par) hres hld i
  have hm:0≤res.getD (i+1) 0 * lds.getD (i+1) 0∧res.getD (i+1) 0 * lds.getD (i+1) 0≤43000000:=by
   obtain ⟨a1,a2⟩:=hres (i+1)
   obtain ⟨b1,b2⟩:=hld (i+1)
   refine ⟨Int.mul_nonneg a1 b1,?_⟩
   have h1:=Int.mul_le_mul_of_nonneg_right a2 b1
   omega
  have iq:=ih (par.getD (i+1) 0).toNat
  obtain ⟨v,hv⟩:∃v,v=(dlS par res lds i).getD (par.getD (i+1) 0).toNat 0+res.getD (i+1) 0 * lds.getD (i+1) 0:=⟨_,rfl⟩
  rw [←hv]
  have hvb:0≤v∧v≤43000000 * ((i:Int)+1):=by omega
  have hc:((i+1:Nat):Int)=(i:Int)+1:=by omega
  rw [hc,List.getD_eq_getElem?_getD,List.getElem?_append]
  split
  ·rw [←List.getD_eq_getElem?_getD]
   have:=ih j
   omega
  ·rcases Nat.eq_zero_or_pos (j - (dlS par res lds i).length) with h0|h0
   ·rw [h0]
    exact hvb
   ·rw [List.getElem?_eq_none (by simp;omega)]
    show (0:Int)≤0∧(0:Int)≤_
    omega
def capsL (l:List CellD) (d:DesignD) (n:Int):List Int:=(sinksL d n).map fun s=>capOf l d ((placesL d).getD s.toNat zPl)
def loadsL (l:List CellD) (d:DesignD) (w:WireD) (n:Int):List Int:=ldB w.parent (ldA w.cap w.sink (capsL l d n) (sinksL d n).length) (w.cap.length - 1)
def delaysL (l:List CellD) (d:DesignD) (w:WireD) (n:Int):List Int:=dlS w.parent w.res (loadsL l d w n) (w.cap.length - 1)
end Go.Proofs.YtlnpefiipdkafaaGreatDoor
/-
  Blocks as the walk meets them.
-/
namespace Go.Proofs.YtlnpefiipdkafaaGreatDoor
open Go.RowKit
theorem wires_at {w:World} {A:Option Addr} {n:Nat} {ws:List WireD} (h:RWires w (.slice A ws.length n) ws) {i:Nat} {x:WireD} (hi:ws[i]?=some x):∃(b off:Nat) (A0 A1 A2 A3:Option Addr) (m0 m1 m2 m3:Nat),A=some ⟨b,off,none⟩∧w.cell? ⟨b,off+i * 4,none⟩=some (.slice A0 x.parent.length m0)∧w.cell? ⟨b,off+i * 4+1,none⟩=some (.slice A1 x.res.length m1)∧w.cell? ⟨b,off+i * 4+2,none⟩=some (.slice A2 x.cap.length m2)∧w.cell? ⟨b,off+i * 4+3,none⟩=some (.slice A3 x.sink.length m3)∧RWire w [.slice A0 x.parent.length m0,.slice A1 x.res.length m1,.slice A2 x.cap.length m2,.slice A3 x.sink.length m3] x:=by
 obtain ⟨A',n',e,-,-,hx⟩:=RList.form h
 injection e with e1 e2
 subst e1
 obtain ⟨b,off,rfl,ds,hl1,hcs,hr⟩:=hx i x hi
 obtain ⟨d0,d1,d2,d3,rfl⟩:=list4 hl1
 obtain ⟨⟨A0,m0,rfl⟩,⟨A1,m1,rfl⟩,⟨A2,m2,rfl⟩,⟨A3,m3,rfl⟩⟩:=hr.shape
 exact ⟨b,off,A0,A1,A2,A3,m0,m1,m2,m3,rfl,by simpa using hcs 0 _ rfl,by simpa [Nat.add_assoc] using hcs 1 _ rfl,by simpa [Nat.add_assoc] using hcs 2 _ rfl,by simpa [Nat.add_assoc] using hcs 3 _ rfl,hr⟩
theorem blkB_no {l:List CellD} {d:DesignD} {ws:List WireD} (h:¬BlkP l d ws):blkB l d ws=false:=pB_false h
noncomputable def codeV (l:List CellD) (d:DesignD) (ws:List WireD) (n:Int):Int:=if blkB l d ws=true then (if inB n 0 ((ws.length:Int) - 1)=true then 0 else 2) else 1
theorem codeV_0 {l:List CellD} {d:DesignD} {ws:List WireD} {n:Int} (h:codeV l d ws n=0):BlkP l d ws∧∃k:Nat,n=(k:Int)∧k<ws.length:=by
 unfold codeV at h
 split at h
 ·rename_i hb
  split at h
  ·rename_i hi
   have:=inB_true hi
   exact ⟨pB_iff.1 (show pB (BlkP l d ws)=true from hb),n.toNat,by omega,by omega⟩
  ·omega
 ·omega
theorem codeV_12 (l:List CellD) (d:DesignD) (ws:List WireD) (n:Int):0≤codeV l d ws n∧codeV l d ws n≤2:=by
 unfold codeV
 split
 ·split<;>omega
 ·omega
end Go.Proofs.YtlnpefiipdkafaaGreatDoor
/-
  Facts on loads and delays in a valid block, in plain Lean.
-/
namespace Go.Proofs.YtlnpefiipdkafaaGreatDoor
open Go.RowKit
structure WireOk (x:WireD) (m:Nat):Prop where
 n1:1≤x.parent.length
 n8:x.parent.length≤8
 res:x.res.length=x.parent.length
 cap:x.cap.length=x.parent.length
 sink:x.sink.length=m
 par:∀i,1≤i→i<x.parent.length→0≤x.parent.getD i 0∧(x.parent.getD i 0).toNat<i
 rb:∀i,0≤x.res.getD i 0∧x.res.getD i 0≤1000
 cb:∀i,0≤x.cap.getD i 0∧x.cap.getD i 0≤500
 sb:∀i,i<x.sink.length→0≤x.sink.getD i 0∧(x.sink.getD i 0).toNat<x.parent.length
theorem wiB_getD {xs:List Int} {lo hi:Int} (h:wiB xs lo hi=true) (i:Nat) (h0:lo≤0) (h1:0≤hi):lo≤xs.getD i 0∧xs.getD i 0≤hi:=by
 by_cases hi2:i<xs.length
 ·exact wiB_at h (by rw [List.getD_eq_getElem?_getD,List.getElem?_eq_getElem hi2];rfl)
 ·rw [List.getD_eq_getElem?_getD,List.getElem?_eq_none (by omega)];exact ⟨h0,h1⟩
theorem wireT_of {x:WireD} {m:Nat} (h:wireB x (m:Int)=true):WireOk x m:=by
 simp only [wireB,Bool.and_eq_true,decide_eq_true_eq] at h
 obtain ⟨⟨⟨⟨⟨⟨⟨h1,h2⟩,h3⟩,h4⟩,h5⟩,h6⟩,h7⟩,h8⟩:=h
 have hn:=inB_true h1
 refine ⟨by omega,by omega,h2,h3,by omega,fun i i1 i2=>?_,fun i=>wiB_getD h5 i (by omega) (by omega),fun i=>wiB_getD h6 i (by omega) (by omega),fun i hi=>?_⟩
 ·have h9:=List.all_eq_true.1 h4 i (List.mem_range.2 i2)
  unfold treeOk at h9
  rw [if_neg (by omega)] at h9
  have:=inB_true h9
  omega
 ·have h9:=wiB_at h8 (show x.sink[i]?=some (x.sink.getD i 0) by rw [List.getD_eq_getElem?_getD,List.getElem?_eq_getElem hi];rfl)
  omega
theorem snkL_mem {n:Int} {ps:List PlaceD} {k:Nat} {s:Int} (h:s∈snkL n ps k):∃(i:Nat) (p:PlaceD),s=(i:Int)∧ps[i]?=some p∧snkAt n p=true:=by
 unfold snkL at h
 obtain ⟨i,_,hi⟩:=List.mem_filterMap.1 h
 cases hp:ps[i]? with
 | none=>rw [hp] at hi;cases hi
 | some p =>
  rw [hp] at hi
  simp only at hi
  split at hi
  ·injection hi with hi
   exact ⟨i,p,hi.symm,hp,by assumption⟩
  ·cases hi
theorem capOf_bd {l:List CellD} {d:DesignD} (h:DesP l d) {p:PlaceD} (hok:PlaceOk l d p):0≤capOf l d p∧capOf l d p≤500:=by
 rcases hok.at_ with ⟨i,k,x,c,q,hi,hk,hx,hc0,hc,hq⟩|⟨hi,k,o,hk,ho⟩
 ·rw [capOf_pin (by omega) (pinAt_of hi hk hx hc hq)]
  exact inB_true ((h.lib.1 _ _ hc).pins.2.1 k q hq).2.1
 ·rw [capOf_port (by omega)];omega
theorem capsL_at {l:List CellD} {d:DesignD} {n s:Int} {i:Nat} {p:PlaceD} (h:(sinksL d n)[i]?=some s) (hp:(placesL d)[s.toNat]?=some p):(capsL l d n).getD i 0=capOf l d p:=by
 unfold capsL
 rw [List.getD_eq_getElem?_getD,List.getElem?_map,h]
 show capOf l d ((placesL d).getD s.toNat zPl)=_
 rw [List.getD_eq_getElem?_getD,hp];rfl
theorem capsL_bd {l:List CellD} {d:DesignD} (h:DesP l d) (n:Int) (j:Nat):0≤(capsL l d n).getD j 0∧(capsL l d n).getD j 0≤500:=by
 by_cases hj:j<(sinksL d n).length
 ·have hs:=List.getElem?_eq_getElem hj
  obtain ⟨i,p,he,hp,_⟩:=snkL_mem (List.getElem_mem hj)
  rw [capsL_at hs (by rw [he,Int.toNat_natCast];exact hp)]
  exact capOf_bd h (place_ok h (List.mem_of_getElem? hp))
 ·unfold capsL
  rw [List.getD_eq_getElem?_getD,List.getElem?_eq_none (by simp;omega)]
  exact ⟨by decide,by decide⟩
theorem sinksL_len {l:List CellD} {d:DesignD} (h:DesP l d) (n:Int):(sinksL d n).length≤78:=by
 have h1:=places_len h
 have h2:=snkL_len n (placesL d) (placesL d).length
 unfold sinksL
 omega
theorem cap_sum {x:WireD} {m:Nat} (h:WireOk x m):NonNeg x.cap∧x.cap.sum≤4000:=by
 refine ⟨fun j=>(h.cb j).1,?_⟩
 have h1:=sum_le_all (xs:=x.cap) (B:=500) (by omega) fun y hy=>by
  obtain ⟨i,hi⟩:=List.getElem?_of_mem hy
  have:=(h.cb i).2
  rw [List.getD_eq_getElem?_getD,hi] at this
  simpa using this
 have:=h.n8
 have:=h.cap
 omega
theorem ldA_bd {l:List CellD} {d:DesignD} (hd:DesP l d) {n:Int} {x:WireD} (h:WireOk x (sinksL d n).length) {i:Nat} (hi:i≤(sinksL d n).length):NonNeg (ldA x.cap x.sink (capsL l d n) i)∧(ldA x.cap x.sink (capsL l d n) i).sum≤43000:=by
 obtain ⟨c1,c2⟩:=cap_sum h
 have hs:=h.sink
 obtain ⟨a1,a2⟩:=ldA_ok (sink:=x.sink) (caps:=capsL l d n) c1 c2 (fun i hi=>by have:=h.sb i hi;have:=h.cap;omega) (capsL_bd hd n) i (by omega)
 have:=sinksL_len hd n
 exact ⟨a1,by omega⟩
theorem ldB_bd {l:List CellD} {d:DesignD} (hd:DesP l d) {n:Int} {x:WireD} (h:WireOk x (sinksL d n).length) {j:Nat} (hj:j<x.cap.length):NonNeg (ldB x.parent (ldA x.cap x.sink (capsL l d n) (sinksL d n).length) j)∧∀q,(ldB x.parent (ldA x.cap x.sink (capsL l d n) (sinksL d n).length) j).getD q 0≤43000:=by
 obtain ⟨a1,a2⟩:=ldA_bd hd h (Nat.le_refl _)
 have hl:=ldA_len x.cap x.sink (capsL l d n) (sinksL d n).length
 have hc:=h.cap
 obtain ⟨b1,b2,_⟩:=ldB_ok (par:=x.parent) a1 a2 (fun i i1 i2=>h.par i i1 (by omega)) j (by omega)
 exact ⟨b1,b2⟩
theorem loadsL_len {l:List CellD} {d:DesignD} {n:Int} {x:WireD}:(loadsL l d x n).length=x.cap.length:=by
 unfold loadsL
 rw [ldB_len,ldA_len]
theorem loadsL_bd {l:List CellD} {d:DesignD} (hd:DesP l d) {n:Int} {x:WireD} (h:WireOk x (sinksL d n).length) (q:Nat):0≤(loadsL l d x n).getD q 0∧(loadsL l d x n).getD q 0≤43000:=by
 have hc:=h.cap
 have h1:=h.n1
 obtain ⟨b1,b2⟩:=ldB_bd hd h (j:=x.cap.length - 1) (by omega)
 exact ⟨b1 q,b2 q⟩
theorem delay_bd {l:List CellD} {d:DesignD} (hd:DesP l d) {n:Int} {x:WireD} (h:WireOk x (sinksL d n).length) {i:Nat} (hi:i≤7) (q:Nat):0≤(dlS x.parent x.res (loadsL l d x n) i).getD q 0∧(dlS x.parent x.res (loadsL l d x n) i).getD q 0≤301000000:=by
 have:=dlS_ok (par:=x.parent) h.rb (fun q=>loadsL_bd hd h q) i q
 omega
end Go.Proofs.YtlnpefiipdkafaaGreatDoor
/-
  An own array of integers, written in place.
-/
namespace Go.Proofs.YtlnpefiipdkafaaGreatDoor
open Go.RowKit
def Arr (wr:World) (B:Nat) (xs:List Int):Prop:=∃cs:Array Value,Blk wr B 2 cs∧xs.length≤cs.size∧∀j,j<xs.length→cs[j]?=some (.int .i64 (xs.getD j 0))
section
variable {wr:World} {B:Nat} {xs:List Int}
theorem Arr.lt (h:Arr wr B xs):B<wr.heap.size:=by obtain ⟨cs,hb,-⟩:=h;exact hb.lt
theorem Arr.grows (h:Arr wr B xs) {w':World} (g:Grows wr w'):Arr w' B xs:=by
 obtain ⟨cs,hb,hs,hc⟩:=h
 exact ⟨cs,hb.grows g,hs,hc⟩
theorem Arr.cell (h:Arr wr B xs) {j:Nat} (hj:j<xs.length):wr.cell? ⟨B,j,none⟩=some (.int .i64 (xs.getD j 0)):=by
 obtain ⟨cs,hb,hs,hc⟩:=h
 rw [hb.cell];exact hc j hj
theorem Arr.frozen (h:Arr wr B xs):∀j,wr.frozen? ⟨B,j,none⟩=false:=by
 obtain ⟨cs,hb,-⟩:=h
 exact hb.frozen
theorem Arr.put (h:Arr wr B xs) {p:Nat} (hp:p<xs.length) {v:Int}:Arr (wr.setCell ⟨B,p,none⟩ (.int .i64 v)) B (xs.set p v):=by
 obtain ⟨cs,hb,hs,hc⟩:=h
 refine ⟨_,hb.set_ p _,by simpa using hs,fun i hi=>?_⟩
 rw [List.length_set] at hi
 rw [Array.getElem?_setIfInBounds,List.getD_eq_getElem?_getD,List.getElem?_set]
 by_cases e:p=i
 ·subst e
  rw [if_pos rfl,if_pos (by omega),if_pos rfl,if_pos hp];rfl
 ·rw [if_neg e,if_neg e,hc i hi,List.getD_eq_getElem?_getD]
theorem Arr.add (h:Arr wr B xs) {p:Nat} (hp:p<xs.length) {v z:Int} (hz:z=xs.getD p 0+v):Arr (wr.setCell ⟨B,p,none⟩ (.int .i64 z)) B (addAt xs p v):=by
 subst hz;exact h.put hp
end
theorem arr_of {w:World} {A:Option Addr} {n c:Nat} {xs:List Int} {bs:List Nat} (h:OInts w (.slice A n c) xs bs) (hn:1≤xs.length):∃g:Nat,A=some ⟨g,0,none⟩∧n=xs.length∧xs.length≤c∧c≤maxLen∧bs=[g]∧Arr w g xs:=by
 rcases h with ⟨e,h0,_⟩|⟨g,c',cs,bss,e,h1,h2,hb,hl,rfl,hc⟩
 ·subst h0;simp at hn
 ·injection e with e1 e2 e3
  subst e1 e2 e3
  have hflat:bss.flatten=[]:=by
   rw [List.flatten_eq_nil_iff]
   intro l hl'
   obtain ⟨i,hi⟩:=List.getElem?_of_mem hl'
   have hlt:i<xs.length:=by have:=(List.getElem?_eq_some_iff.1 hi).1;omega
   obtain ⟨es,b',_,_,hbi,ho⟩:=hc i _ (List.getElem?_eq_getElem hlt)
   rw [hi] at hbi
   injection hbi with hbi
   rw [hbi,ho.2]
  have hcell:∀j,j<xs.length→cs[j]?=some (.int .i64 (xs.getD j 0)):=fun j hj=>by
   obtain ⟨es,b',_,hcs,_,ho⟩:=hc j _ (List.getElem?_eq_getElem hj)
   have h3:=hcs 0 (.int .i64 xs[j]) (by rw [ho.1];rfl)
   rw [List.getD_eq_getElem?_getD,List.getElem?_eq_getElem hj]
   simpa using h3
  have hsz:xs.length≤cs.size:=by
   have:=(Array.getElem?_eq_some_iff.1 (hcell (xs.length - 1) (by omega))).1
   omega
  exact ⟨g,rfl,rfl,h1,h2,by rw [hflat],cs,hb,hsz,hcell⟩
theorem arr_own {w:World} {g c:Nat} {xs:List Int} (h:Arr w g xs) (h1:xs.length≤c) (h2:c≤maxLen):OInts w (.slice (some ⟨g,0,none⟩) xs.length c) xs [g]:=by
 obtain ⟨cs,hb,hs,hc⟩:=h
 refine .inr ⟨g,c,cs,List.replicate xs.length [],rfl,h1,h2,hb,by simp,?_,fun i x hx=>?_⟩
 ·congr 1
  symm
  rw [List.flatten_eq_nil_iff]
  intro l hl
  exact (List.mem_replicate.1 hl).2
 ·have hi:i<xs.length:=(List.getElem?_eq_some_iff.1 hx).1
  refine ⟨[.int .i64 x],[],rfl,fun j u hu=>?_,by rw [List.getElem?_replicate,if_pos hi],rfl,rfl⟩
  match j,hu with
  | 0,hu =>
   simp at hu
   subst hu
   have:=hc i hi
   rw [List.getD_eq_getElem?_getD,hx] at this
   simpa using this
end Go.Proofs.YtlnpefiipdkafaaGreatDoor
/-
  What is answered at a net of a block.
-/
namespace Go.Proofs.YtlnpefiipdkafaaGreatDoor
open Go.RowKit
theorem ret_sc {A:Option Addr} {a b c:Nat} {x y:Int} (h:a=b) (k:x=y):Ending.returned (.tuple #[.slice A a c,.int .i64 x])=.returned (.tuple #[.slice A b c,.int .i64 y]):=by rw [h,k]
theorem getD_at {xs:List Int} {i:Nat} (h:i<xs.length):xs[i]?=some (xs.getD i 0):=by
 simp [List.getD,List.getElem?_eq_getElem h]
theorem getD_of {xs:List Int} {i:Nat} {p:Int} (h:xs[i]?=some p):xs.getD i 0=p:=by
 simp [List.getD,h]
section
variable (cs:List CellD) (d:DesignD) (ws:List WireD) (n:Int)
noncomputable def nodeLdV:List Int:=if codeV cs d ws n=0 then (match ws[n.toNat]? with|some x=>loadsL cs d x n|none=>[]) else []
noncomputable def nodeDlV:List Int:=if codeV cs d ws n=0 then (match ws[n.toNat]? with|some x=>delaysL cs d x n|none=>[]) else []
noncomputable def netLdV:Int:=if codeV cs d ws n=0 then (match ws[n.toNat]? with|some x=>(loadsL cs d x n).getD 0 0|none=>0) else 0
end
variable {cs:List CellD} {d:DesignD} {ws:List WireD} {k:Nat} {x:WireD} {n:Int}
theorem nodeLdV_at (hc:codeV cs d ws (k:Int)=0) (hx:ws[k]?=some x):nodeLdV cs d ws (k:Int)=loadsL cs d x (k:Int):=by
 unfold nodeLdV
 rw [if_pos hc,Int.toNat_natCast,hx]
theorem nodeDlV_at (hc:codeV cs d ws (k:Int)=0) (hx:ws[k]?=some x):nodeDlV cs d ws (k:Int)=delaysL cs d x (k:Int):=by
 unfold nodeDlV
 rw [if_pos hc,Int.toNat_natCast,hx]
theorem netLdV_at (hc:codeV cs d ws (k:Int)=0) (hx:ws[k]?=some x):netLdV cs d ws (k:Int)=(loadsL cs d x (k:Int)).getD 0 0:=by
 unfold netLdV
 rw [if_pos hc,Int.toNat_natCast,hx]
theorem nodeLdV_len (cs:List CellD) (d:DesignD) (ws:List WireD) (n:Int):(nodeLdV cs d ws n).length≤1048576:=by
 by_cases hc:codeV cs d ws n=0
 ·obtain ⟨bp,k,rfl,klt⟩:=codeV_0 hc
  obtain ⟨x,hx⟩:∃x,ws[k]?=some x:=⟨_,List.getElem?_eq_getElem klt⟩
  rw [nodeLdV_at hc hx,loadsL_len]
  have h:=wireT_of (bp.wire k x hx)
  have:=h.cap
  have:=h.n8
  omega
 ·unfold nodeLdV
  rw [if_neg hc]
  exact Nat.zero_le _
theorem nodeDlV_len (cs:List CellD) (d:DesignD) (ws:List WireD) (n:Int):(nodeDlV cs d ws n).length≤1048576:=by
 by_cases hc:codeV cs d ws n=0
 ·obtain ⟨bp,k,rfl,klt⟩:=codeV_0 hc
  obtain ⟨x,hx⟩:∃x,ws[k]?=some x:=⟨_,List.getElem?_eq_getElem klt⟩
  rw [nodeDlV_at hc hx]
  unfold delaysL
  rw [dlS_len]
  have h:=wireT_of (bp.wire k x hx)
  have:=h.cap
  have:=h.n8
  omega
 ·unfold nodeDlV
  rw [if_neg hc]
  exact Nat.zero_le _
end Go.Proofs.YtlnpefiipdkafaaGreatDoor
/-
  Owned blocks: kept, bounded, in visible shape.
-/
namespace Go.Proofs.YtlnpefiipdkafaaGreatDoor
open Go.RowKit
theorem OBlock.same {w w':World} {cs:List Value} {x:BlockD} {bs:List Nat} (h:OBlock w cs x bs) (g:SameOn bs w w'):OBlock w' cs x bs:=by
 obtain ⟨l,i,n,p,ws,b0,b1,b2,e,h0,h1,h2,rfl⟩:=h
 exact ⟨l,i,n,p,ws,b0,b1,b2,e,h0.same (g.sub (by simp +contextual)),h1.same (g.sub (by simp +contextual)),h2.same (g.sub (by simp +contextual)),rfl⟩
theorem OBlock.lt {w:World} {cs:List Value} {x:BlockD} {bs:List Nat} (h:OBlock w cs x bs):∀g∈bs,g<w.heap.size:=by
 obtain ⟨l,i,n,p,ws,b0,b1,b2,e,h0,h1,h2,rfl⟩:=h
 intro g hg
 simp only [List.mem_append] at hg
 rcases hg with (hg|hg)|hg
 ·exact h0.lt g hg
 ·exact h1.lt g hg
 ·exact h2.lt g hg
theorem OBlock.shape {w:World} {l i n p ws:Value} {x:BlockD} {bs:List Nat} (h:OBlock w [l,i,n,p,ws] x bs):(∃(A:Option Addr) (c:Nat),l=.slice A x.lib.length c)∧(∃(A:Option Addr) (c:Nat),i=.slice A x.design.insts.length c)∧(∃(A:Option Addr) (c:Nat),n=.slice A x.design.nets.length c)∧(∃(A:Option Addr) (c:Nat),p=.slice A x.design.ports.length c)∧(∃(A:Option Addr) (c:Nat),ws=.slice A x.wires.length c):=h.reads.shape
end Go.Proofs.YtlnpefiipdkafaaGreatDoor
