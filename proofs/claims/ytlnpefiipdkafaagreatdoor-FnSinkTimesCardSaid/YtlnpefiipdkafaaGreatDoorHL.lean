/-
  Arguments that come in, opened: from the form's reading to the reading relations.
-/
import Derived.Test.YtlnpefiipdkafaaGreatDoorGA
import Derived.Test.YtlnpefiipdkafaaGreatDoorProg
import Derived.Deep.Slices
import Derived.Test.YtlnpefiipdkafaaGreatDoorHU
namespace Go.Proofs.YtlnpefiipdkafaaGreatDoor
open Go.ChangeShapes Go.WideShapes Go.ChangeAt Go.RowKit Go.Deep

theorem collect {α:Type} {Q:Nat→α→Prop}:∀n:Nat,(∀i,i<n→∃y,Q i y)→∃ys:List α,ys.length=n∧∀(i:Nat) (y:α),ys[i]?=some y→Q i y
 | 0,_=>⟨[],rfl,fun i y h=>by simp at h⟩
 | n+1,h=>by
  obtain ⟨ys,hl,hq⟩:=collect n fun i hi=>h i (by omega)
  obtain ⟨y,hy⟩:=h n (by omega)
  refine ⟨ys++[y],by simp [hl],fun i z hz=>?_⟩
  by_cases hi:i<ys.length
  ·rw [List.getElem?_append_left hi] at hz
   exact hq i z hz
  ·rw [List.getElem?_append_right (by omega)] at hz
   have hi0:i - ys.length=0:=by
    rcases Nat.eq_zero_or_pos (i - ys.length) with h0|h0
    ·exact h0
    ·rw [List.getElem?_eq_none (by simp;omega)] at hz;cases hz
   rw [hi0] at hz
   simp at hz
   subst hz
   obtain rfl:i=n:=by omega
   exact hy
theorem add_spotless {w:World} {a:Addr} {v:Value} (h:w.cell? a=some v):a=⟨a.block,a.off,none⟩:=by
 unfold World.cell? at h
 split at h
 ·split at h
  ·cases h
  ·rename_i hs
   cases a with
   | mk b o s=>cases s with
    | none=>rfl
    | some s=>simp at hs
 ·cases h
theorem add_add' (a:Addr) (i j:Nat):(a.add i).add j=a.add (i+j):=by
 unfold Addr.add
 by_cases hi:i=0<;>by_cases hj:j=0<;>simp [hi,hj,Nat.add_assoc]
theorem add_none (b o n:Nat):(⟨b,o,none⟩:Addr).add n=⟨b,o+n,none⟩:=by
 unfold Addr.add
 by_cases h:n=0<;>simp [h]

section
variable {H:Type} {enc:TypeId×Value→H} {P:Program} {w:World} {sp:Nat→Bool} {held:Bool}
theorem trod_list {α:Type} {sz:Nat} {R:World→List Value→α→Prop} {t e:TypeId} {fuel:Nat} {v:Value} {x:DataW H×List MemPlace} (ht:P.underlying t=some (.slice e)) (hsz:P.cellsOf e=sz) (hpos:0<sz)
  (hel:∀(fuel:Nat) (cs:List Value) (x:DataW H×List MemPlace),cs.length=sz→DataW.trod enc P w 0 sp held fuel e cs=some x→∃y:α,R w cs y)
  (h:DataW.trod enc P w 0 sp held fuel t [v]=some x):∃xs:List α,RList sz R w v xs:=by
 rcases open_slice ht h with ⟨hv,_⟩|⟨a,len,cap,m,n,D,Pl,hv,hb,hl,hm,hmm,_,hc⟩
 ·injection hv with hv _
  exact ⟨[],none,0,hv,Nat.le_refl _,Nat.zero_le _,.inl rfl⟩
 ·injection hv with hv _
  have hlm:len≤m:=by rw [hmm];split<;>omega
  obtain ⟨xs,hxl,hxs⟩:=collect (Q:=fun i y=>∃cs:List Value,cs.length=sz∧(∀(j:Nat) (u:Value),cs[j]?=some u→w.cell? (a.add (i * sz+j))=some u)∧R w cs y) len fun i hi=>by
   obtain ⟨cs,h1,h2⟩:=hc i (by omega)
   rw [hsz] at h1
   obtain ⟨_,hcl,hat⟩:=World.cells?_some h1
   obtain ⟨y,hy⟩:=hel _ _ _ hcl h2
   refine ⟨y,cs,hcl,fun j u hu=>?_,hy⟩
   have hj:j<sz:=by have:=(List.getElem?_eq_some_iff.1 hu).1;omega
   rw [←add_add',hat j hj,hu]
  rcases Nat.eq_zero_or_pos len with h0|h0
  ·subst h0
   have hx0:xs=[]:=List.eq_nil_of_length_eq_zero hxl
   subst hx0
   exact ⟨[],some a,cap,hv,Nat.zero_le _,hm,.inl rfl⟩
  ·have hsl:a=⟨a.block,a.off,none⟩:=by
    obtain ⟨cs,hcl,hcs,_⟩:=hxs 0 xs[0] (List.getElem?_eq_getElem (by omega))
    have:=hcs 0 cs[0] (List.getElem?_eq_getElem (by omega))
    simp only [Nat.zero_mul,Nat.add_zero] at this
    have e:a.add 0=a:=by unfold Addr.add;simp
    rw [e] at this
    exact add_spotless this
   refine ⟨xs,some a,cap,by rw [hxl];exact hv,by omega,hm,.inr ⟨a.block,a.off,congrArg some hsl,fun i y hy=>?_⟩⟩
   obtain ⟨cs,hcl,hcs,hr⟩:=hxs i y hy
   refine ⟨cs,hcl,fun j u hu=>?_,hr⟩
   have:=hcs j u hu
   rw [hsl,add_none] at this
   exact this
theorem trod_i64 {t:TypeId} {fuel:Nat} {cs:List Value} {x:DataW H×List MemPlace} (ht:P.underlying t=some (.int .i64)) (h:DataW.trod enc P w 0 sp held fuel t cs=some x):∃y:Int,cs=[.int .i64 y]:=by
 obtain ⟨y,hy,_⟩:=DataW.trod_int ht h
 exact ⟨y,hy⟩
theorem trod_str {t:TypeId} {fuel:Nat} {cs:List Value} {x:DataW H×List MemPlace} (ht:P.underlying t=some .string) (h:DataW.trod enc P w 0 sp held fuel t cs=some x):∃y:ByteArray,cs=[.string y]∧y.size≤maxLen:=by
 cases fuel with
 | zero=>simp [DataW.trod] at h
 | succ n =>
  unfold DataW.trod at h
  rw [ht] at h
  split at h<;>simp_all
theorem trod_bool' {t:TypeId} {fuel:Nat} {cs:List Value} {x:DataW H×List MemPlace} (ht:P.underlying t=some .bool) (h:DataW.trod enc P w 0 sp held fuel t cs=some x):∃y:Bool,cs=[.bool y]:=by
 cases fuel with
 | zero=>simp [DataW.trod] at h
 | succ n =>
  unfold DataW.trod at h
  rw [ht] at h
  split at h<;>simp_all
theorem field_some {o:Option (DataW H×List MemPlace)} {xs:List (DataW H×List MemPlace)} {i:Nat} (h:o=xs[i]?) (hl:i<xs.length):∃x,o=some x:=⟨xs[i],by rw [h];exact List.getElem?_eq_getElem hl⟩
end

end Go.Proofs.YtlnpefiipdkafaaGreatDoor
/-
  An argument that is a slice of bytes, opened; laws.big.
-/
namespace Go.Proofs.YtlnpefiipdkafaaGreatDoor
open Go.ChangeShapes Go.WideShapes Go.ChangeAt Go.RowKit Go.Deep

theorem trod_bytes {H:Type} {enc:TypeId×Value→H} {w:World} {sp:Nat→Bool} {held:Bool} {fuel:Nat} {cs:List Value} {x:DataW H×List MemPlace} (h:DataW.trod enc Tryz.prog w 0 sp held fuel 22 cs=some x) (hl:cs.length=1):∃(v:Value) (xs:List Int),cs=[v]∧RList 1 RU8 w v xs:=by
 match cs,hl with
 | [v],_ =>
  obtain ⟨xs,hx⟩:=trod_list (sz:=1) (R:=RU8) Tryz.underlying22 (by kernel_rfl) (by decide) (fun f cs x hl h=>by obtain ⟨y,hy,_,hw⟩:=DataW.trod_int Tryz.underlying5 h;exact ⟨y,hy,bounds_u8 hw⟩) h
  exact ⟨v,xs,rfl,hx⟩
set_option maxRecDepth 100000 in
theorem open_Bytes {H:Type} {enc:TypeId×Value→H} {W:World} {base:Nat} {v:Value} {d:DataW H} {p:List MemPlace}
  (hv:Value.okWide Tryz.prog W .any base 22 v) (h:DataW.Trod enc Tryz.prog W 0 (fun _=>true) true 22 v d p) (_:∀x∈p,x.block<W.heap.size) :
  ∃xs:List Int,RBytes W v xs:=by
 obtain ⟨A,l,c,rfl⟩:=okWide_slice Tryz.underlying22 hv
 obtain ⟨fuel,hf⟩:=h
 obtain ⟨v',xs,e,hr⟩:=trod_bytes hf rfl
 have e2:([.slice A l c]:List Value)=[v']:=e
 injection e2 with e3
 subst e3
 exact ⟨xs,hr⟩
theorem big_any {v:Value} {xs:List Int} (w:World) (h:RBytes w v xs) :
  Calls Tryz.prog 7 #[v] w fun e w'=>e=.returned (.bool (decide ((xs.length:Int)>4096)))∧w=w':=by
 have hl:=RList.len h
 obtain ⟨A,c,rfl,-,-,-⟩:=RList.form h
 clear h
 go_enter Tryz.func7,Tryz.ntmps7
 go_wp2
 go_ret
 exact ⟨rfl,rfl⟩
end Go.Proofs.YtlnpefiipdkafaaGreatDoor
