/-
  Loads and delays of a valid net, in plain Lean: the root bears all, and neither turns back on the way from it.
-/
import Derived.Test.YtlnpefiipdkafaaGreatDoorGT
namespace Go.Proofs.YtlnpefiipdkafaaGreatDoor
open Go.RowKit
theorem ldA_sum {cap sink caps:List Int} (hs:∀i,i<sink.length→(sink.getD i 0).toNat<cap.length):∀i,i≤sink.length→i≤caps.length→(ldA cap sink caps i).sum=cap.sum+(caps.take i).sum
 | 0,_,_=>by simp [ldA]
 | i+1,h,h2=>by
  show (addAt _ _ _).sum=_
  rw [sum_addAt (by rw [ldA_len];exact hs i (by omega)),ldA_sum hs i (by omega) (by omega),take_succ_sum (by omega)]
  omega
theorem ldB_sum {par xs0:List Int} (hpar:∀i,1≤i→i<xs0.length→(par.getD i 0).toNat<i):∀j,j<xs0.length→((ldB par xs0 j).take (xs0.length - j)).sum=xs0.sum
 | 0,_=>by show (xs0.take _).sum=_;rw [Nat.sub_zero,List.take_length]
 | j+1,h=>by
  have ih:=ldB_sum hpar j (by omega)
  obtain ⟨i,hi⟩:∃i,i=xs0.length - 1 - j:=⟨_,rfl⟩
  have p1:=hpar i (by omega) (by omega)
  have hl:=ldB_len par xs0 j
  have e:ldB par xs0 (j+1)=addAt (ldB par xs0 j) (par.getD i 0).toNat ((ldB par xs0 j).getD i 0):=by rw [hi];rfl
  have hs:=take_succ_sum (xs:=ldB par xs0 j) (m:=i) (by omega)
  rw [show i+1=xs0.length - j by omega] at hs
  rw [e,show xs0.length - (j+1)=i by omega,take_addAt p1,sum_addAt (by rw [List.length_take];omega)]
  omega
theorem ldB_up {par xs0:List Int} (hn:NonNeg xs0) (hpar:∀i,1≤i→i<xs0.length→(par.getD i 0).toNat<i):∀j,j<xs0.length→NonNeg (ldB par xs0 j)∧∀i,xs0.length - j≤i→i<xs0.length→(ldB par xs0 j).getD i 0≤(ldB par xs0 j).getD (par.getD i 0).toNat 0
 | 0,_=>⟨hn,fun i h1 h2=>by omega⟩
 | j+1,h=>by
  obtain ⟨h1,h2⟩:=ldB_up hn hpar j (by omega)
  obtain ⟨i0,hi⟩:∃i,i=xs0.length - 1 - j:=⟨_,rfl⟩
  have p1:=hpar i0 (by omega) (by omega)
  have hl:=ldB_len par xs0 j
  have e:ldB par xs0 (j+1)=addAt (ldB par xs0 j) (par.getD i0 0).toNat ((ldB par xs0 j).getD i0 0):=by rw [hi];rfl
  have hlt:(par.getD i0 0).toNat<(ldB par xs0 j).length:=by omega
  rw [e]
  refine ⟨NonNeg.add h1 (h1 i0) hlt,fun i hi1 hi2=>?_⟩
  rw [addAt_at hlt,addAt_at hlt,if_neg (by omega)]
  have a0:=h1 i0
  by_cases e2:i=i0
  ·subst e2
   rw [if_pos rfl]
   have:=h1 (par.getD i 0).toNat
   omega
  ·have h3:=h2 i (by omega) hi2
   split
   ·rename_i e3
    rw [e3] at h3
    omega
   ·exact h3
theorem dlS_pre {par res lds:List Int} {m:Nat}:∀i,m≤i→(dlS par res lds i).getD m 0=(dlS par res lds m).getD m 0
 | 0,h=>by
  have:m=0:=by omega
  subst this
  rfl
 | i+1,h=>by
  by_cases e:m=i+1
  ·subst e;rfl
  ·have ih:=dlS_pre (par:=par) (res:=res) (lds:=lds) (m:=m) i (by omega)
   show (dlS par res lds i++[_]).getD m 0=_
   rw [List.getD_eq_getElem?_getD,List.getElem?_append_left (by rw [dlS_len];omega),←List.getD_eq_getElem?_getD]
   exact ih
theorem dlS_up {par res lds:List Int} {n i:Nat} (h0:0≤res.getD i 0 * lds.getD i 0) (hp:(par.getD i 0).toNat<i) (hi:i≤n):(dlS par res lds n).getD (par.getD i 0).toNat 0≤(dlS par res lds n).getD i 0:=by
 rw [dlS_pre n hi,dlS_pre n (by omega)]
 cases i with
 | zero=>omega
 | succ i =>
  have e:(dlS par res lds (i+1)).getD (i+1) 0=(dlS par res lds i).getD (par.getD (i+1) 0).toNat 0+res.getD (i+1) 0 * lds.getD (i+1) 0:=by
   show (dlS par res lds i++[_]).getD (i+1) 0=_
   rw [List.getD_eq_getElem?_getD,List.getElem?_append_right (by rw [dlS_len];omega),dlS_len]
   simp
  rw [e,dlS_pre i (by omega)]
  omega
structure LoadLaw (cs:List CellD) (d:DesignD) (x:WireD) (k:Nat):Prop where
 pos:1≤x.cap.length
 few:x.cap.length≤8
 plen:x.parent.length=x.cap.length
 len:(loadsL cs d x (k:Int)).length=x.cap.length
 dlen:(delaysL cs d x (k:Int)).length=x.cap.length
 top:(loadsL cs d x (k:Int)).getD 0 0=x.cap.sum+(capsL cs d (k:Int)).sum
 par:∀i,1≤i→i<x.cap.length→0≤x.parent.getD i 0∧(x.parent.getD i 0).toNat<i
 ld:∀i,1≤i→i<x.cap.length→(loadsL cs d x (k:Int)).getD i 0≤(loadsL cs d x (k:Int)).getD (x.parent.getD i 0).toNat 0
 dl:∀i,1≤i→i<x.cap.length→(delaysL cs d x (k:Int)).getD (x.parent.getD i 0).toNat 0≤(delaysL cs d x (k:Int)).getD i 0
 csum:∀i,0≤(x.cap.take i).sum∧(x.cap.take i).sum≤4000
 ksum:∀i,0≤((capsL cs d (k:Int)).take i).sum∧((capsL cs d (k:Int)).take i).sum≤40000
 cb:∀i,0≤x.cap.getD i 0∧x.cap.getD i 0≤500
theorem take_sum_le {xs:List Int} {B:Int} (hn:NonNeg xs) (h:xs.sum≤B) (i:Nat):0≤(xs.take i).sum∧(xs.take i).sum≤B:=by
 refine ⟨sum_nonneg (hn.take i),?_⟩
 have e:xs.sum=(xs.take i).sum+(xs.drop i).sum:=by rw [←List.sum_append,List.take_append_drop]
 have hd:NonNeg (xs.drop i):=fun j=>by
  have:=hn (i+j)
  rw [List.getD_eq_getElem?_getD] at this ⊢
  rw [List.getElem?_drop]
  exact this
 have:=sum_nonneg hd
 omega
theorem load_law {cs:List CellD} {d:DesignD} {ws:List WireD} {k:Nat} {x:WireD} (h:BlkP cs d ws) (hx:ws[k]?=some x):LoadLaw cs d x k:=by
 have W:=wireT_of (h.wire k x hx)
 have hc:=cap_sum W
 have hkb:=capsL_bd h.des (k:Int)
 have hkl:(capsL cs d (k:Int)).length=(sinksL d (k:Int)).length:=by unfold capsL;simp
 have hA:=ldA_ok hc.1 hc.2 (fun i hi=>by have:=W.sb i hi;rw [W.cap];exact this) hkb (sinksL d (k:Int)).length (by rw [W.sink];exact Nat.le_refl _)
 have hAl:=ldA_len x.cap x.sink (capsL cs d (k:Int)) (sinksL d (k:Int)).length
 have hpar:∀i,1≤i→i<(ldA x.cap x.sink (capsL cs d (k:Int)) (sinksL d (k:Int)).length).length→(x.parent.getD i 0).toNat<i:=fun i h1 h2=>(W.par i h1 (by rw [hAl,W.cap] at h2;exact h2)).2
 have n1:1≤x.cap.length:=by rw [W.cap];exact W.n1
 have hB:=ldB_up hA.1 hpar (x.cap.length - 1) (by omega)
 have hS:=ldB_sum hpar (x.cap.length - 1) (by omega)
 have hL:(loadsL cs d x (k:Int)).length=x.cap.length:=by unfold loadsL;rw [ldB_len,hAl]
 have hnn:NonNeg (loadsL cs d x (k:Int)):=hB.1
 refine ⟨n1,by rw [W.cap];exact W.n8,W.cap.symm,hL,?_,?_,fun i h1 h2=>W.par i h1 (by rw [W.cap] at h2;exact h2),fun i h1 h2=>hB.2 i (by omega) (by omega),fun i h1 h2=>?_,fun i=>take_sum_le hc.1 hc.2 i,fun i=>take_sum_le (fun j=>(hkb j).1) ?_ i,W.cb⟩
 ·unfold delaysL
  rw [dlS_len]
  omega
 ·have e1:x.cap.length - (x.cap.length - 1)=1:=by omega
  rw [hAl,e1,ldA_sum (fun i hi=>by have:=(W.sb i hi).2;rw [W.cap];exact this) _ (by rw [W.sink];exact Nat.le_refl _) (by omega)] at hS
  rw [←hkl,List.take_length] at hS
  rw [←hS,hkl]
  show (loadsL cs d x (k:Int)).getD 0 0=((loadsL cs d x (k:Int)).take 1).sum
  obtain ⟨a,t,e⟩:∃a t,loadsL cs d x (k:Int)=a::t:=by
   cases e:loadsL cs d x (k:Int) with
   | nil=>rw [e] at hL;simp at hL;omega
   | cons a t=>exact ⟨a,t,rfl⟩
  rw [e]
  simp
 ·unfold delaysL
  exact dlS_up (Int.mul_nonneg (W.rb i).1 (hnn i)) (W.par i h1 (by rw [W.cap] at h2;exact h2)).2 (by omega)
 ·have h1:=sum_le_all (xs:=capsL cs d (k:Int)) (B:=500) (by decide) (fun z hz=>by
   obtain ⟨j,hj⟩:=List.getElem?_of_mem hz
   have:=(hkb j).2
   rw [List.getD_eq_getElem?_getD,hj] at this
   exact this)
  have h2:=sinksL_len h.des (k:Int)
  rw [hkl] at h1
  omega
theorem capV_sink {cs:List CellD} {d:DesignD} {n s:Int} {i:Nat} (h:DesP cs d) (hs:(sinksL d n)[i]?=some s):capV cs d s=(capsL cs d n).getD i 0:=by
 obtain ⟨j,p,rfl,hp,-⟩:=snkL_mem (List.mem_of_getElem? hs)
 rw [capsL_at hs (by rw [Int.toNat_natCast];exact hp)]
 have hb:desB cs d=true:=pB_iff.2 h
 have hj:=(List.getElem?_eq_some_iff.1 hp).1
 have ha:atB cs d (j:Int)=true:=by
  rw [atB_eq hb]
  unfold inB
  simp
  omega
 obtain ⟨-,-,-,hv,-⟩:=atB_true ha
 rw [Int.toNat_natCast,hp] at hv
 injection hv with hv
 unfold capV
 rw [if_pos ha,←hv]
end Go.Proofs.YtlnpefiipdkafaaGreatDoor
