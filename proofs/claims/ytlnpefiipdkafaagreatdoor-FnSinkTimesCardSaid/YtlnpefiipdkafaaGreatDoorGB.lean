/-
  The state of a loop that copies a slice's elements into a new slice, each of sz cells.
-/
import Derived.Test.YtlnpefiipdkafaaGreatDoorGA
namespace Go.Proofs.YtlnpefiipdkafaaGreatDoor
open Go.RowKit

/-- cells stored one behind the other -/
def setAll (w:World) (g:Nat):Nat→List Value→World
 | _,[]=>w
 | o,e::es=>setAll (w.setCell ⟨g,o,none⟩ e) g (o+1) es
def arrSet (cs:Array Value):Nat→List Value→Array Value
 | _,[]=>cs
 | o,e::es=>arrSet (cs.setIfInBounds o e) (o+1) es
theorem setAll_blk {g:Nat} {t:TypeId} (es:List Value):∀{w:World} {cs:Array Value} (o:Nat),Blk w g t cs→Blk (setAll w g o es) g t (arrSet cs o es):=by
 induction es with
 | nil=>exact fun o h=>h
 | cons e es ih=>exact fun o h=>ih (o+1) (h.set_ o e)
theorem arrSet_size (es:List Value):∀{cs:Array Value} (o:Nat),(arrSet cs o es).size=cs.size:=by
 induction es with
 | nil=>exact fun _=>rfl
 | cons e es ih=>intro cs o;unfold arrSet;rw [ih];simp
theorem arrSet_far (es:List Value):∀{cs:Array Value} (o i:Nat),i<o∨o+es.length≤i→(arrSet cs o es)[i]?=cs[i]?:=by
 induction es with
 | nil=>exact fun _ _ _=>rfl
 | cons e es ih =>
  intro cs o i h
  unfold arrSet
  simp only [List.length_cons] at h
  rw [ih (o+1) i (by omega),Array.getElem?_setIfInBounds,if_neg (by omega)]
theorem arrSet_at (es:List Value):∀{cs:Array Value} (o j:Nat) (u:Value),es[j]?=some u→o+es.length≤cs.size→(arrSet cs o es)[o+j]?=some u:=by
 induction es with
 | nil=>intro cs o j u h;simp at h
 | cons e es ih =>
  intro cs o j u h hs
  unfold arrSet
  simp only [List.length_cons] at hs
  cases j with
  | zero =>
   show (arrSet (cs.setIfInBounds o e) (o+1) es)[o]?=some u
   rw [arrSet_far es (o+1) o (.inl (by omega)),Array.getElem?_setIfInBounds,if_pos rfl,if_pos (by omega)]
   simpa using h
  | succ j =>
   have:=ih (cs:=cs.setIfInBounds o e) (o+1) j u (by simpa using h) (by simp;omega)
   rw [←this]
   congr 1
   omega
theorem setAll_grows {w0:World} {g:Nat} (hg:w0.heap.size≤g) (es:List Value):∀{w:World} (o:Nat),Grows w0 w→Grows w0 (setAll w g o es):=by
 induction es with
 | nil=>exact fun _ h=>h
 | cons e es ih=>exact fun o h=>ih (o+1) (h.setCell hg e)
theorem setAll_size {g:Nat} (es:List Value):∀{w:World} (o:Nat),(setAll w g o es).heap.size=w.heap.size:=by
 induction es with
 | nil=>exact fun _=>rfl
 | cons e es ih=>intro w o;unfold setAll;rw [ih];simp
theorem setAll_same {g:Nat} {bs:List Nat} (hg:∀q∈bs,q≠g) (es:List Value):∀{w0 w:World} (o:Nat),SameOn bs w0 w→SameOn bs w0 (setAll w g o es):=by
 induction es with
 | nil=>exact fun _ h=>h
 | cons e es ih=>exact fun o h=>ih (o+1) (h.set hg e)

/-- the copy's state behind k rounds: the new slice's block is the first behind w -/
def CopyG {α:Type} (sz:Nat) (t:TypeId) (O:World→List Value→α→List Nat→Prop) (w wr:World) (xs:List α) (k:Nat):Prop :=
 ∃(cs:Array Value) (bss:List (List Nat)),Blk wr w.heap.size t cs∧cs.size=xs.length * sz∧bss.length=k∧Own (w.heap.size+1) wr.heap.size bss.flatten∧Grows w wr ∧
  ∀(i:Nat) (x:α),i<k→xs[i]?=some x→∃(es:List Value) (b:List Nat),es.length=sz∧(∀(j:Nat) (u:Value),es[j]?=some u→cs[i * sz+j]?=some u)∧bss[i]?=some b∧O wr es x b
section
variable {α:Type} {sz:Nat} {t:TypeId} {O:World→List Value→α→List Nat→Prop} {w wr u:World} {xs:List α} {k:Nat} {x:α}
theorem lt_of_at (h:xs[k]?=some x):k<xs.length:=(List.getElem?_eq_some_iff.1 h).1
theorem CopyG.start (cs:Array Value) (hb:Blk wr w.heap.size t cs) (hs:cs.size=xs.length * sz) (hg:Grows w wr):CopyG sz t O w wr xs 0 :=
 ⟨cs,[],hb,hs,rfl,Own.nil,hg,fun _ _ hi=>absurd hi (Nat.not_lt_zero _)⟩
theorem CopyG.step (h:CopyG sz t O w wr xs k) (hO:∀(w w':World) cs x b,O w cs x b→SameOn b w w'→O w' cs x b) (hx:xs[k]?=some x) (g:Grows wr u) {es:List Value} {b:List Nat}
  (ho:O u es x b) (ow:Own wr.heap.size u.heap.size b) (hes:es.length=sz):CopyG sz t O w (setAll u w.heap.size (k * sz) es) xs (k+1):=by
 obtain ⟨cs,bss,hb,hs,hl,hown,hg,hc⟩:=h
 have hk:=lt_of_at hx
 have hlt:=hb.lt
 have hm:k * sz+sz≤xs.length * sz:=by
  have:=Nat.mul_le_mul_right sz hk
  rw [Nat.succ_mul] at this
  exact this
 refine ⟨_,bss++[b],setAll_blk es _ (hb.grows g),by rw [arrSet_size,hs],by simp [hl],?_,setAll_grows (Nat.le_refl _) es _ (hg.trans g),fun i y hi hy=>?_⟩
 ·rw [setAll_size]
  have:=hown.append ow hlt g.size
  simpa using this
 ·by_cases e:i=k
  ·subst e
   rw [hx] at hy
   injection hy with hy
   subst hy
   refine ⟨es,b,hes,fun j v hv=>arrSet_at es _ j v hv (by rw [hs,hes];exact hm),by rw [List.getElem?_append_right (by omega),hl];simp,hO _ _ _ _ _ ho (setAll_same (fun q hq e=>?_) es _ (SameOn.refl _ _))⟩
   have:=(ow.2 q hq).1
   omega
  ·have hik:i<k:=by omega
   obtain ⟨fs,b',hf,hcs,hbi,ho'⟩:=hc i y hik hy
   have hin:∀q∈b',q∈bss.flatten:=fun q hq=>List.mem_flatten.2 ⟨b',List.mem_of_getElem? hbi,hq⟩
   refine ⟨fs,b',hf,fun j v hv=>?_,by rw [List.getElem?_append_left (by omega)];exact hbi,hO _ _ _ _ _ ho' (setAll_same (fun q hq e=>?_) es _ ((SameOn.refl _ _).grows (fun q hq=>(hown.2 q (hin q hq)).2) g))⟩
   ·have hj:=lt_of_at hv
    have:i * sz+sz≤k * sz:=by
     have:=Nat.mul_le_mul_right sz hik
     rw [Nat.succ_mul] at this
     exact this
    rw [arrSet_far es _ _ (.inl (by omega))]
    exact hcs j v hv
   ·have:=(hown.2 q (hin q hq)).1
    omega
theorem CopyG.done (h:CopyG sz t O w wr xs xs.length) (hl:xs.length≤maxLen) :
  ∃bs,OList sz t O wr (.slice (some ⟨w.heap.size,0,none⟩) xs.length xs.length) xs bs∧Own w.heap.size wr.heap.size bs∧Grows w wr:=by
 obtain ⟨cs,bss,hb,hs,hl2,hown,hg,hc⟩:=h
 refine ⟨_,.inr ⟨_,_,cs,bss,rfl,Nat.le_refl _,hl,hb,hl2,rfl,fun i x hx=>hc i x (lt_of_at hx) hx⟩,?_,hg⟩
 have:=(Own.one (Nat.le_refl w.heap.size) (Nat.lt_succ_self _)).append hown (Nat.le_succ _) hb.lt
 simpa using this
end
end Go.Proofs.YtlnpefiipdkafaaGreatDoor
/-
  Base of the texts on slices of structs.
-/
namespace Go.Proofs.YtlnpefiipdkafaaGreatDoor
open Go.RowKit
theorem eq_of_getElem2? {α:Type} {xs ys:List α} (hl:xs.length=ys.length) (h:∀i,i<xs.length→xs[i]?=ys[i]?):xs=ys:=by
 apply List.ext_getElem?
 intro i
 rcases Nat.lt_or_ge i xs.length with hi|hi
 ·exact h i hi
 ·rw [List.getElem?_eq_none hi,List.getElem?_eq_none (by omega)]
theorem list2 {cs:List Value} (h:cs.length=2):∃c0 c1:Value,cs=[c0,c1]:=by
 match cs,h with
 | [a,b],_=>exact ⟨a,b,rfl⟩
theorem strNe {a b:ByteArray} (h:¬a=b):(a.toList==b.toList)=false:=by
 rw [Bool.eq_false_iff]
 intro e
 rw [beq_iff_eq,ByteArray.toList_eq,ByteArray.toList_eq] at e
 exact h (ByteArray.ext (Array.toList_inj.mp e))
end Go.Proofs.YtlnpefiipdkafaaGreatDoor
/-
  A struct and the slices of it: owned, small, its budget, copy and equality.
-/
namespace Go.Proofs.YtlnpefiipdkafaaGreatDoor
open Go.RowKit

end Go.Proofs.YtlnpefiipdkafaaGreatDoor
/-
  A struct and the slices of it: owned, small, its budget, copy and equality.
-/
namespace Go.Proofs.YtlnpefiipdkafaaGreatDoor
open Go.RowKit

def OPin (_:World) (cs:List Value) (x:PinD) (bs:List Nat):Prop :=
 cs=[.string x.name,.int .i64 x.dir,.int .i64 x.cap,.bool x.clock]∧x.name.size≤maxLen∧bs=[]
theorem OPin.reads {w:World} {cs:List Value} {x:PinD} {bs:List Nat} (h:OPin w cs x bs):RPin w cs x:=by
 obtain ⟨e,z0,_⟩:=h
 exact ⟨e,z0⟩
theorem OPin.same {w w':World} {cs:List Value} {x:PinD} {bs:List Nat} (h:OPin w cs x bs) (_:SameOn bs w w'):OPin w' cs x bs:=by
 exact h
theorem OPin.lt {w:World} {cs:List Value} {x:PinD} {bs:List Nat} (h:OPin w cs x bs):∀g∈bs,g<w.heap.size:=by
 obtain ⟨e,z0,rfl⟩:=h
 intro g hg
 cases hg
def SmPin (x:PinD):Prop:=x.name.size≤1048576
theorem RPin.parts {w:World} {vv0 vv1 vv2 vv3:Value} {x:PinD} (h:RPin w [vv0,vv1,vv2,vv3] x):(vv0=.string x.name)∧(vv1=.int .i64 x.dir)∧(vv2=.int .i64 x.cap)∧(vv3=.bool x.clock)∧x.name.size≤maxLen:=by
 obtain ⟨he,z0⟩:=h
 injection he with e0 he
 injection he with e1 he
 injection he with e2 he
 injection he with e3 he
 exact ⟨e0,e1,e2,e3,z0⟩
theorem OPin.shape {w:World} {vv0 vv1 vv2 vv3:Value} {x:PinD} {bs:List Nat} (h:OPin w [vv0,vv1,vv2,vv3] x bs):vv0=.string x.name∧vv1=.int .i64 x.dir∧vv2=.int .i64 x.cap∧vv3=.bool x.clock:=by
 obtain ⟨e0,e1,e2,e3,-⟩:=h.reads.parts
 exact ⟨e0,e1,e2,e3⟩
def wtPin (_:PinD):Nat:=0
def OPins:World→Value→List PinD→List Nat→Prop:=OList 4 125 OPin
def SmPins (xs:List PinD):Prop:=SmL xs∧∀x∈xs,SmPin x
def wtPins (xs:List PinD):Nat:=wtL wtPin xs
theorem OPins.reads {w:World} {v:Value} {xs:List PinD} {bs:List Nat} (h:OPins w v xs bs):RPins w v xs:=OList.reads h fun _ _ _ h=>h.reads
theorem OPins.same {w w':World} {v:Value} {xs:List PinD} {bs:List Nat} (h:OPins w v xs bs) (g:SameOn bs w w'):OPins w' v xs bs:=OList.same h g fun _ _ _ h g=>h.same g
theorem OPins.lt {w:World} {v:Value} {xs:List PinD} {bs:List Nat} (h:OPins w v xs bs):∀g∈bs,g<w.heap.size:=OList.lt h fun _ _ _ h=>h.lt
theorem info_Pin:(Tryz.prog.info? 125).map (fun i=>(i.zero,i.size))=some (some (.agg #[.string .empty,.int .i64 0,.int .i64 0,.bool false]),4):=by kernel_rfl
theorem bytes_Pin:∀i,Tryz.prog.info? 125=some i→i.bytes≤256:=by
 intro i hi
 have h:(Tryz.prog.info? 125).map (fun i=>decide (i.bytes≤256))=some true:=by kernel_rfl
 rw [hi] at h
 simpa using h
end Go.Proofs.YtlnpefiipdkafaaGreatDoor
/-
  A struct and the slices of it: owned, small, its budget, copy and equality.
-/
namespace Go.Proofs.YtlnpefiipdkafaaGreatDoor
open Go.RowKit

theorem OTable.shape {w:World} {a b c:Value} {t:TableD} {bs:List Nat} (h:OTable w [a,b,c] t bs):(∃(A:Option Addr) (n:Nat),a=.slice A t.slews.length n)∧(∃(A:Option Addr) (n:Nat),b=.slice A t.loads.length n)∧(∃(A:Option Addr) (n:Nat),c=.slice A t.values.length n):=h.reads.shape
def OTables:World→Value→List TableD→List Nat→Prop:=OList 3 136 OTable
def SmTables (xs:List TableD):Prop:=SmL xs∧∀x∈xs,SmTable x
def wtTables (xs:List TableD):Nat:=wtL wtTable xs
theorem OTables.reads {w:World} {v:Value} {xs:List TableD} {bs:List Nat} (h:OTables w v xs bs):RTables w v xs:=OList.reads h fun _ _ _ h=>h.reads
theorem OTables.same {w w':World} {v:Value} {xs:List TableD} {bs:List Nat} (h:OTables w v xs bs) (g:SameOn bs w w'):OTables w' v xs bs:=OList.same h g fun _ _ _ h g=>h.same g
theorem OTables.lt {w:World} {v:Value} {xs:List TableD} {bs:List Nat} (h:OTables w v xs bs):∀g∈bs,g<w.heap.size:=OList.lt h fun _ _ _ h=>h.lt
theorem info_Table:(Tryz.prog.info? 136).map (fun i=>(i.zero,i.size))=some (some (.agg #[.slice none 0 0,.slice none 0 0,.slice none 0 0]),3):=by kernel_rfl
theorem bytes_Table:∀i,Tryz.prog.info? 136=some i→i.bytes≤256:=by
 intro i hi
 have h:(Tryz.prog.info? 136).map (fun i=>decide (i.bytes≤256))=some true:=by kernel_rfl
 rw [hi] at h
 simpa using h
end Go.Proofs.YtlnpefiipdkafaaGreatDoor
/-
  A struct and the slices of it: owned, small, its budget, copy and equality.
-/
namespace Go.Proofs.YtlnpefiipdkafaaGreatDoor
open Go.RowKit

def OArc (w:World) (cs:List Value) (x:ArcD) (bs:List Nat):Prop :=
 ∃(vv4 vv5:Value) (b4 b5:List Nat),cs=[.int .i64 x.kind,.int .i64 x.src,.int .i64 x.dst,.int .i64 x.sense,vv4,vv5]∧OTables w vv4 x.delay b4∧OTables w vv5 x.slew b5∧bs=b4++b5
theorem OArc.reads {w:World} {cs:List Value} {x:ArcD} {bs:List Nat} (h:OArc w cs x bs):RArc w cs x:=by
 obtain ⟨vv4,vv5,b4,b5,e,h4,h5,_⟩:=h
 exact ⟨vv4,vv5,e,h4.reads,h5.reads⟩
theorem OArc.same {w w':World} {cs:List Value} {x:ArcD} {bs:List Nat} (h:OArc w cs x bs) (g:SameOn bs w w'):OArc w' cs x bs:=by
 obtain ⟨vv4,vv5,b4,b5,e,h4,h5,rfl⟩:=h
 exact ⟨vv4,vv5,_,_,e,h4.same (g.sub (by simp +contextual)),h5.same (g.sub (by simp +contextual)),rfl⟩
theorem OArc.lt {w:World} {cs:List Value} {x:ArcD} {bs:List Nat} (h:OArc w cs x bs):∀g∈bs,g<w.heap.size:=by
 obtain ⟨vv4,vv5,b4,b5,e,h4,h5,rfl⟩:=h
 intro g hg
 simp only [List.mem_append] at hg
 rcases hg with (hg|hg)
 ·exact h4.lt g hg
 ·exact h5.lt g hg
def SmArc (x:ArcD):Prop:=SmTables x.delay∧SmTables x.slew
theorem RArc.parts {w:World} {vv0 vv1 vv2 vv3 vv4 vv5:Value} {x:ArcD} (h:RArc w [vv0,vv1,vv2,vv3,vv4,vv5] x):(vv0=.int .i64 x.kind)∧(vv1=.int .i64 x.src)∧(vv2=.int .i64 x.dst)∧(vv3=.int .i64 x.sense)∧RTables w vv4 x.delay∧RTables w vv5 x.slew:=by
 obtain ⟨vv4',vv5',he,h4,h5⟩:=h
 injection he with e0 he
 injection he with e1 he
 injection he with e2 he
 injection he with e3 he
 injection he with e4 he
 injection he with e5 he
 subst e4 e5
 exact ⟨e0,e1,e2,e3,h4,h5⟩
theorem OArc.shape {w:World} {vv0 vv1 vv2 vv3 vv4 vv5:Value} {x:ArcD} {bs:List Nat} (h:OArc w [vv0,vv1,vv2,vv3,vv4,vv5] x bs):vv0=.int .i64 x.kind∧vv1=.int .i64 x.src∧vv2=.int .i64 x.dst∧vv3=.int .i64 x.sense∧(∃(A:Option Addr) (n:Nat),vv4=.slice A x.delay.length n)∧(∃(A:Option Addr) (n:Nat),vv5=.slice A x.slew.length n):=by
 obtain ⟨e0,e1,e2,e3,e4,e5⟩:=h.reads.parts
 exact ⟨e0,e1,e2,e3,(by obtain ⟨A,c,h,-⟩:=RList.form e4;exact ⟨A,c,h⟩),(by obtain ⟨A,c,h,-⟩:=RList.form e5;exact ⟨A,c,h⟩)⟩
def wtArc (x:ArcD):Nat:=wtTables x.delay+wtTables x.slew
def OArcs:World→Value→List ArcD→List Nat→Prop:=OList 6 134 OArc
def SmArcs (xs:List ArcD):Prop:=SmL xs∧∀x∈xs,SmArc x
def wtArcs (xs:List ArcD):Nat:=wtL wtArc xs
theorem OArcs.reads {w:World} {v:Value} {xs:List ArcD} {bs:List Nat} (h:OArcs w v xs bs):RArcs w v xs:=OList.reads h fun _ _ _ h=>h.reads
theorem OArcs.same {w w':World} {v:Value} {xs:List ArcD} {bs:List Nat} (h:OArcs w v xs bs) (g:SameOn bs w w'):OArcs w' v xs bs:=OList.same h g fun _ _ _ h g=>h.same g
theorem OArcs.lt {w:World} {v:Value} {xs:List ArcD} {bs:List Nat} (h:OArcs w v xs bs):∀g∈bs,g<w.heap.size:=OList.lt h fun _ _ _ h=>h.lt
theorem info_Arc:(Tryz.prog.info? 134).map (fun i=>(i.zero,i.size))=some (some (.agg #[.int .i64 0,.int .i64 0,.int .i64 0,.int .i64 0,.slice none 0 0,.slice none 0 0]),6):=by kernel_rfl
theorem bytes_Arc:∀i,Tryz.prog.info? 134=some i→i.bytes≤256:=by
 intro i hi
 have h:(Tryz.prog.info? 134).map (fun i=>decide (i.bytes≤256))=some true:=by kernel_rfl
 rw [hi] at h
 simpa using h
end Go.Proofs.YtlnpefiipdkafaaGreatDoor
/-
  A struct and the slices of it: owned, small, its budget, copy and equality.
-/
namespace Go.Proofs.YtlnpefiipdkafaaGreatDoor
open Go.RowKit

def OCell (w:World) (cs:List Value) (x:CellD) (bs:List Nat):Prop :=
 ∃(vv2 vv3 vv4:Value) (b2 b3 b4:List Nat),cs=[.string x.name,.int .i64 x.kind,vv2,vv3,vv4,.int .i64 x.leak,.int .i64 x.energy]∧x.name.size≤maxLen∧OPins w vv2 x.pins b2∧OArcs w vv3 x.arcs b3∧OInts w vv4 x.truth b4∧bs=b2++b3++b4
theorem OCell.reads {w:World} {cs:List Value} {x:CellD} {bs:List Nat} (h:OCell w cs x bs):RCell w cs x:=by
 obtain ⟨vv2,vv3,vv4,b2,b3,b4,e,z0,h2,h3,h4,_⟩:=h
 exact ⟨vv2,vv3,vv4,e,z0,h2.reads,h3.reads,h4.reads⟩
theorem OCell.same {w w':World} {cs:List Value} {x:CellD} {bs:List Nat} (h:OCell w cs x bs) (g:SameOn bs w w'):OCell w' cs x bs:=by
 obtain ⟨vv2,vv3,vv4,b2,b3,b4,e,z0,h2,h3,h4,rfl⟩:=h
 exact ⟨vv2,vv3,vv4,_,_,_,e,z0,h2.same (g.sub (by simp +contextual)),h3.same (g.sub (by simp +contextual)),h4.same (g.sub (by simp +contextual)),rfl⟩
theorem OCell.lt {w:World} {cs:List Value} {x:CellD} {bs:List Nat} (h:OCell w cs x bs):∀g∈bs,g<w.heap.size:=by
 obtain ⟨vv2,vv3,vv4,b2,b3,b4,e,z0,h2,h3,h4,rfl⟩:=h
 intro g hg
 simp only [List.mem_append] at hg
 rcases hg with ((hg|hg)|hg)
 ·exact h2.lt g hg
 ·exact h3.lt g hg
 ·exact h4.lt g hg
def SmCell (x:CellD):Prop:=x.name.size≤1048576∧SmPins x.pins∧SmArcs x.arcs∧SmL x.truth
theorem RCell.parts {w:World} {vv0 vv1 vv2 vv3 vv4 vv5 vv6:Value} {x:CellD} (h:RCell w [vv0,vv1,vv2,vv3,vv4,vv5,vv6] x):(vv0=.string x.name)∧(vv1=.int .i64 x.kind)∧RPins w vv2 x.pins∧RArcs w vv3 x.arcs∧RInts w vv4 x.truth∧(vv5=.int .i64 x.leak)∧(vv6=.int .i64 x.energy)∧x.name.size≤maxLen:=by
 obtain ⟨vv2',vv3',vv4',he,z0,h2,h3,h4⟩:=h
 injection he with e0 he
 injection he with e1 he
 injection he with e2 he
 injection he with e3 he
 injection he with e4 he
 injection he with e5 he
 injection he with e6 he
 subst e2 e3 e4
 exact ⟨e0,e1,h2,h3,h4,e5,e6,z0⟩
theorem OCell.shape {w:World} {vv0 vv1 vv2 vv3 vv4 vv5 vv6:Value} {x:CellD} {bs:List Nat} (h:OCell w [vv0,vv1,vv2,vv3,vv4,vv5,vv6] x bs):vv0=.string x.name∧vv1=.int .i64 x.kind∧(∃(A:Option Addr) (n:Nat),vv2=.slice A x.pins.length n)∧(∃(A:Option Addr) (n:Nat),vv3=.slice A x.arcs.length n)∧(∃(A:Option Addr) (n:Nat),vv4=.slice A x.truth.length n)∧vv5=.int .i64 x.leak∧vv6=.int .i64 x.energy:=by
 obtain ⟨e0,e1,e2,e3,e4,e5,e6,-⟩:=h.reads.parts
 exact ⟨e0,e1,(by obtain ⟨A,c,h,-⟩:=RList.form e2;exact ⟨A,c,h⟩),(by obtain ⟨A,c,h,-⟩:=RList.form e3;exact ⟨A,c,h⟩),(by obtain ⟨A,c,h,-⟩:=RList.form e4;exact ⟨A,c,h⟩),e5,e6⟩
def wtCell (x:CellD):Nat:=wtPins x.pins+wtArcs x.arcs+List.length x.truth
def OCells:World→Value→List CellD→List Nat→Prop:=OList 7 112 OCell
def SmCells (xs:List CellD):Prop:=SmL xs∧∀x∈xs,SmCell x
def wtCells (xs:List CellD):Nat:=wtL wtCell xs
theorem OCells.reads {w:World} {v:Value} {xs:List CellD} {bs:List Nat} (h:OCells w v xs bs):RCells w v xs:=OList.reads h fun _ _ _ h=>h.reads
theorem OCells.same {w w':World} {v:Value} {xs:List CellD} {bs:List Nat} (h:OCells w v xs bs) (g:SameOn bs w w'):OCells w' v xs bs:=OList.same h g fun _ _ _ h g=>h.same g
theorem OCells.lt {w:World} {v:Value} {xs:List CellD} {bs:List Nat} (h:OCells w v xs bs):∀g∈bs,g<w.heap.size:=OList.lt h fun _ _ _ h=>h.lt
theorem info_Cell:(Tryz.prog.info? 112).map (fun i=>(i.zero,i.size))=some (some (.agg #[.string .empty,.int .i64 0,.slice none 0 0,.slice none 0 0,.slice none 0 0,.int .i64 0,.int .i64 0]),7):=by kernel_rfl
theorem bytes_Cell:∀i,Tryz.prog.info? 112=some i→i.bytes≤256:=by
 intro i hi
 have h:(Tryz.prog.info? 112).map (fun i=>decide (i.bytes≤256))=some true:=by kernel_rfl
 rw [hi] at h
 simpa using h
end Go.Proofs.YtlnpefiipdkafaaGreatDoor
/-
  A struct and the slices of it: owned, small, its budget, copy and equality.
-/
namespace Go.Proofs.YtlnpefiipdkafaaGreatDoor
open Go.RowKit

structure LibD where
 cells:List CellD
def RLib (w:World) (cs:List Value) (x:LibD):Prop:=∃v:Value,cs=[v]∧RCells w v x.cells
theorem RLib.keep {w w':World} {cs:List Value} {x:LibD} (h:RLib w cs x) (k:Keeps w w'):RLib w' cs x:=by
 obtain ⟨v,e,h⟩:=h
 exact ⟨v,e,h.keep k⟩
theorem RLib.mk {w:World} {v:Value} {xs:List CellD} (h:RCells w v xs):RLib w [v] ⟨xs⟩:=⟨v,rfl,h⟩
def OLib (w:World) (cs:List Value) (x:LibD) (bs:List Nat):Prop :=
 ∃(vv0:Value) (b0:List Nat),cs=[vv0]∧OCells w vv0 x.cells b0∧bs=b0
theorem OLib.reads {w:World} {cs:List Value} {x:LibD} {bs:List Nat} (h:OLib w cs x bs):RLib w cs x:=by
 obtain ⟨vv0,b0,e,h0,_⟩:=h
 exact ⟨vv0,e,h0.reads⟩
theorem OLib.same {w w':World} {cs:List Value} {x:LibD} {bs:List Nat} (h:OLib w cs x bs) (g:SameOn bs w w'):OLib w' cs x bs:=by
 obtain ⟨vv0,b0,e,h0,rfl⟩:=h
 exact ⟨vv0,_,e,h0.same (g.sub (by simp +contextual)),rfl⟩
theorem OLib.lt {w:World} {cs:List Value} {x:LibD} {bs:List Nat} (h:OLib w cs x bs):∀g∈bs,g<w.heap.size:=by
 obtain ⟨vv0,b0,e,h0,rfl⟩:=h
 intro g hg
 exact h0.lt g hg
def SmLib (x:LibD):Prop:=SmCells x.cells
theorem RLib.parts {w:World} {vv0:Value} {x:LibD} (h:RLib w [vv0] x):RCells w vv0 x.cells:=by
 obtain ⟨vv0',he,h0⟩:=h
 injection he with e0 he
 subst e0
 exact h0
theorem OLib.shape {w:World} {vv0:Value} {x:LibD} {bs:List Nat} (h:OLib w [vv0] x bs):(∃(A:Option Addr) (n:Nat),vv0=.slice A x.cells.length n):=by
 have e0:=h.reads.parts
 exact (by obtain ⟨A,c,h,-⟩:=RList.form e0;exact ⟨A,c,h⟩)
def wtLib (x:LibD):Nat:=wtCells x.cells
end Go.Proofs.YtlnpefiipdkafaaGreatDoor
/-
  Slices of strings: owned, small, budget, copy, equality.
-/
namespace Go.Proofs.YtlnpefiipdkafaaGreatDoor
open Go.RowKit
def OS (_:World) (cs:List Value) (x:ByteArray) (b:List Nat):Prop:=cs=[.string x]∧x.size≤maxLen∧b=[]
def OStrs:World→Value→List ByteArray→List Nat→Prop:=OList 1 9 OS
def SmStr (s:ByteArray):Prop:=s.size≤1048576
def SmStrs (xs:List ByteArray):Prop:=SmL xs∧∀x∈xs,SmStr x
theorem OStrs.reads {w:World} {v:Value} {xs:List ByteArray} {bs:List Nat} (h:OStrs w v xs bs):RStrs w v xs:=OList.reads h fun _ _ _ h=>⟨h.1,h.2.1⟩
theorem OStrs.same {w w':World} {v:Value} {xs:List ByteArray} {bs:List Nat} (h:OStrs w v xs bs) (g:SameOn bs w w'):OStrs w' v xs bs:=OList.same h g fun _ _ _ h _=>h
theorem OStrs.lt {w:World} {v:Value} {xs:List ByteArray} {bs:List Nat} (h:OStrs w v xs bs):∀g∈bs,g<w.heap.size:=OList.lt h fun _ _ _ h g hg=>by rw [h.2.2] at hg;cases hg
end Go.Proofs.YtlnpefiipdkafaaGreatDoor
/-
  A struct and the slices of it: owned, small, its budget, copy and equality.
-/
namespace Go.Proofs.YtlnpefiipdkafaaGreatDoor
open Go.RowKit

def OPort (_:World) (cs:List Value) (x:PortD) (bs:List Nat):Prop :=
 cs=[.string x.name,.int .i64 x.dir,.int .i64 x.net]∧x.name.size≤maxLen∧bs=[]
theorem OPort.reads {w:World} {cs:List Value} {x:PortD} {bs:List Nat} (h:OPort w cs x bs):RPort w cs x:=by
 obtain ⟨e,z0,_⟩:=h
 exact ⟨e,z0⟩
theorem OPort.same {w w':World} {cs:List Value} {x:PortD} {bs:List Nat} (h:OPort w cs x bs) (_:SameOn bs w w'):OPort w' cs x bs:=by
 exact h
theorem OPort.lt {w:World} {cs:List Value} {x:PortD} {bs:List Nat} (h:OPort w cs x bs):∀g∈bs,g<w.heap.size:=by
 obtain ⟨e,z0,rfl⟩:=h
 intro g hg
 cases hg
def SmPort (x:PortD):Prop:=x.name.size≤1048576
theorem RPort.parts {w:World} {vv0 vv1 vv2:Value} {x:PortD} (h:RPort w [vv0,vv1,vv2] x):(vv0=.string x.name)∧(vv1=.int .i64 x.dir)∧(vv2=.int .i64 x.net)∧x.name.size≤maxLen:=by
 obtain ⟨he,z0⟩:=h
 injection he with e0 he
 injection he with e1 he
 injection he with e2 he
 exact ⟨e0,e1,e2,z0⟩
theorem OPort.shape {w:World} {vv0 vv1 vv2:Value} {x:PortD} {bs:List Nat} (h:OPort w [vv0,vv1,vv2] x bs):vv0=.string x.name∧vv1=.int .i64 x.dir∧vv2=.int .i64 x.net:=by
 obtain ⟨e0,e1,e2,-⟩:=h.reads.parts
 exact ⟨e0,e1,e2⟩
def wtPort (_:PortD):Nat:=0
def OPorts:World→Value→List PortD→List Nat→Prop:=OList 3 74 OPort
def SmPorts (xs:List PortD):Prop:=SmL xs∧∀x∈xs,SmPort x
def wtPorts (xs:List PortD):Nat:=wtL wtPort xs
theorem OPorts.reads {w:World} {v:Value} {xs:List PortD} {bs:List Nat} (h:OPorts w v xs bs):RPorts w v xs:=OList.reads h fun _ _ _ h=>h.reads
theorem OPorts.same {w w':World} {v:Value} {xs:List PortD} {bs:List Nat} (h:OPorts w v xs bs) (g:SameOn bs w w'):OPorts w' v xs bs:=OList.same h g fun _ _ _ h g=>h.same g
theorem OPorts.lt {w:World} {v:Value} {xs:List PortD} {bs:List Nat} (h:OPorts w v xs bs):∀g∈bs,g<w.heap.size:=OList.lt h fun _ _ _ h=>h.lt
theorem info_Port:(Tryz.prog.info? 74).map (fun i=>(i.zero,i.size))=some (some (.agg #[.string .empty,.int .i64 0,.int .i64 0]),3):=by kernel_rfl
theorem bytes_Port:∀i,Tryz.prog.info? 74=some i→i.bytes≤256:=by
 intro i hi
 have h:(Tryz.prog.info? 74).map (fun i=>decide (i.bytes≤256))=some true:=by kernel_rfl
 rw [hi] at h
 simpa using h
end Go.Proofs.YtlnpefiipdkafaaGreatDoor
/-
  A struct and the slices of it: owned, small, its budget, copy and equality.
-/
namespace Go.Proofs.YtlnpefiipdkafaaGreatDoor
open Go.RowKit

def OInst (w:World) (cs:List Value) (x:InstD) (bs:List Nat):Prop :=
 ∃(vv2:Value) (b2:List Nat),cs=[.string x.name,.int .i64 x.cell,vv2]∧x.name.size≤maxLen∧OInts w vv2 x.nets b2∧bs=b2
theorem OInst.reads {w:World} {cs:List Value} {x:InstD} {bs:List Nat} (h:OInst w cs x bs):RInst w cs x:=by
 obtain ⟨vv2,b2,e,z0,h2,_⟩:=h
 exact ⟨vv2,e,z0,h2.reads⟩
theorem OInst.same {w w':World} {cs:List Value} {x:InstD} {bs:List Nat} (h:OInst w cs x bs) (g:SameOn bs w w'):OInst w' cs x bs:=by
 obtain ⟨vv2,b2,e,z0,h2,rfl⟩:=h
 exact ⟨vv2,_,e,z0,h2.same (g.sub (by simp +contextual)),rfl⟩
theorem OInst.lt {w:World} {cs:List Value} {x:InstD} {bs:List Nat} (h:OInst w cs x bs):∀g∈bs,g<w.heap.size:=by
 obtain ⟨vv2,b2,e,z0,h2,rfl⟩:=h
 intro g hg
 exact h2.lt g hg
def SmInst (x:InstD):Prop:=x.name.size≤1048576∧SmL x.nets
theorem RInst.parts {w:World} {vv0 vv1 vv2:Value} {x:InstD} (h:RInst w [vv0,vv1,vv2] x):(vv0=.string x.name)∧(vv1=.int .i64 x.cell)∧RInts w vv2 x.nets∧x.name.size≤maxLen:=by
 obtain ⟨vv2',he,z0,h2⟩:=h
 injection he with e0 he
 injection he with e1 he
 injection he with e2 he
 subst e2
 exact ⟨e0,e1,h2,z0⟩
theorem OInst.shape {w:World} {vv0 vv1 vv2:Value} {x:InstD} {bs:List Nat} (h:OInst w [vv0,vv1,vv2] x bs):vv0=.string x.name∧vv1=.int .i64 x.cell∧(∃(A:Option Addr) (n:Nat),vv2=.slice A x.nets.length n):=by
 obtain ⟨e0,e1,e2,-⟩:=h.reads.parts
 exact ⟨e0,e1,(by obtain ⟨A,c,h,-⟩:=RList.form e2;exact ⟨A,c,h⟩)⟩
def wtInst (x:InstD):Nat:=List.length x.nets
def OInsts:World→Value→List InstD→List Nat→Prop:=OList 3 72 OInst
def SmInsts (xs:List InstD):Prop:=SmL xs∧∀x∈xs,SmInst x
def wtInsts (xs:List InstD):Nat:=wtL wtInst xs
theorem OInsts.reads {w:World} {v:Value} {xs:List InstD} {bs:List Nat} (h:OInsts w v xs bs):RInsts w v xs:=OList.reads h fun _ _ _ h=>h.reads
theorem OInsts.same {w w':World} {v:Value} {xs:List InstD} {bs:List Nat} (h:OInsts w v xs bs) (g:SameOn bs w w'):OInsts w' v xs bs:=OList.same h g fun _ _ _ h g=>h.same g
theorem OInsts.lt {w:World} {v:Value} {xs:List InstD} {bs:List Nat} (h:OInsts w v xs bs):∀g∈bs,g<w.heap.size:=OList.lt h fun _ _ _ h=>h.lt
theorem info_Inst:(Tryz.prog.info? 72).map (fun i=>(i.zero,i.size))=some (some (.agg #[.string .empty,.int .i64 0,.slice none 0 0]),3):=by kernel_rfl
theorem bytes_Inst:∀i,Tryz.prog.info? 72=some i→i.bytes≤256:=by
 intro i hi
 have h:(Tryz.prog.info? 72).map (fun i=>decide (i.bytes≤256))=some true:=by kernel_rfl
 rw [hi] at h
 simpa using h
end Go.Proofs.YtlnpefiipdkafaaGreatDoor
/-
  A struct and the slices of it: owned, small, its budget, copy and equality.
-/
namespace Go.Proofs.YtlnpefiipdkafaaGreatDoor
open Go.RowKit

def ODesign (w:World) (cs:List Value) (x:DesignD) (bs:List Nat):Prop :=
 ∃(vv0 vv1 vv2:Value) (b0 b1 b2:List Nat),cs=[vv0,vv1,vv2]∧OInsts w vv0 x.insts b0∧OStrs w vv1 x.nets b1∧OPorts w vv2 x.ports b2∧bs=b0++b1++b2
theorem ODesign.reads {w:World} {cs:List Value} {x:DesignD} {bs:List Nat} (h:ODesign w cs x bs):RDesign w cs x:=by
 obtain ⟨vv0,vv1,vv2,b0,b1,b2,e,h0,h1,h2,_⟩:=h
 exact ⟨vv0,vv1,vv2,e,h0.reads,h1.reads,h2.reads⟩
theorem ODesign.same {w w':World} {cs:List Value} {x:DesignD} {bs:List Nat} (h:ODesign w cs x bs) (g:SameOn bs w w'):ODesign w' cs x bs:=by
 obtain ⟨vv0,vv1,vv2,b0,b1,b2,e,h0,h1,h2,rfl⟩:=h
 exact ⟨vv0,vv1,vv2,_,_,_,e,h0.same (g.sub (by simp +contextual)),h1.same (g.sub (by simp +contextual)),h2.same (g.sub (by simp +contextual)),rfl⟩
theorem ODesign.lt {w:World} {cs:List Value} {x:DesignD} {bs:List Nat} (h:ODesign w cs x bs):∀g∈bs,g<w.heap.size:=by
 obtain ⟨vv0,vv1,vv2,b0,b1,b2,e,h0,h1,h2,rfl⟩:=h
 intro g hg
 simp only [List.mem_append] at hg
 rcases hg with ((hg|hg)|hg)
 ·exact h0.lt g hg
 ·exact h1.lt g hg
 ·exact h2.lt g hg
def SmDesign (x:DesignD):Prop:=SmInsts x.insts∧SmStrs x.nets∧SmPorts x.ports
theorem RDesign.parts {w:World} {vv0 vv1 vv2:Value} {x:DesignD} (h:RDesign w [vv0,vv1,vv2] x):RInsts w vv0 x.insts∧RStrs w vv1 x.nets∧RPorts w vv2 x.ports:=by
 obtain ⟨vv0',vv1',vv2',he,h0,h1,h2⟩:=h
 injection he with e0 he
 injection he with e1 he
 injection he with e2 he
 subst e0 e1 e2
 exact ⟨h0,h1,h2⟩
theorem ODesign.shape {w:World} {vv0 vv1 vv2:Value} {x:DesignD} {bs:List Nat} (h:ODesign w [vv0,vv1,vv2] x bs):(∃(A:Option Addr) (n:Nat),vv0=.slice A x.insts.length n)∧(∃(A:Option Addr) (n:Nat),vv1=.slice A x.nets.length n)∧(∃(A:Option Addr) (n:Nat),vv2=.slice A x.ports.length n):=by
 obtain ⟨e0,e1,e2⟩:=h.reads.parts
 exact ⟨(by obtain ⟨A,c,h,-⟩:=RList.form e0;exact ⟨A,c,h⟩),(by obtain ⟨A,c,h,-⟩:=RList.form e1;exact ⟨A,c,h⟩),(by obtain ⟨A,c,h,-⟩:=RList.form e2;exact ⟨A,c,h⟩)⟩
def wtDesign (x:DesignD):Nat:=wtInsts x.insts+List.length x.nets+wtPorts x.ports
end Go.Proofs.YtlnpefiipdkafaaGreatDoor
/-
  A struct and the slices of it: owned, small, its budget, copy and equality.
-/
namespace Go.Proofs.YtlnpefiipdkafaaGreatDoor
open Go.RowKit

def OWire (w:World) (cs:List Value) (x:WireD) (bs:List Nat):Prop :=
 ∃(vv0 vv1 vv2 vv3:Value) (b0 b1 b2 b3:List Nat),cs=[vv0,vv1,vv2,vv3]∧OInts w vv0 x.parent b0∧OInts w vv1 x.res b1∧OInts w vv2 x.cap b2∧OInts w vv3 x.sink b3∧bs=b0++b1++b2++b3
theorem OWire.reads {w:World} {cs:List Value} {x:WireD} {bs:List Nat} (h:OWire w cs x bs):RWire w cs x:=by
 obtain ⟨vv0,vv1,vv2,vv3,b0,b1,b2,b3,e,h0,h1,h2,h3,_⟩:=h
 exact ⟨vv0,vv1,vv2,vv3,e,h0.reads,h1.reads,h2.reads,h3.reads⟩
theorem OWire.same {w w':World} {cs:List Value} {x:WireD} {bs:List Nat} (h:OWire w cs x bs) (g:SameOn bs w w'):OWire w' cs x bs:=by
 obtain ⟨vv0,vv1,vv2,vv3,b0,b1,b2,b3,e,h0,h1,h2,h3,rfl⟩:=h
 exact ⟨vv0,vv1,vv2,vv3,_,_,_,_,e,h0.same (g.sub (by simp +contextual)),h1.same (g.sub (by simp +contextual)),h2.same (g.sub (by simp +contextual)),h3.same (g.sub (by simp +contextual)),rfl⟩
theorem OWire.lt {w:World} {cs:List Value} {x:WireD} {bs:List Nat} (h:OWire w cs x bs):∀g∈bs,g<w.heap.size:=by
 obtain ⟨vv0,vv1,vv2,vv3,b0,b1,b2,b3,e,h0,h1,h2,h3,rfl⟩:=h
 intro g hg
 simp only [List.mem_append] at hg
 rcases hg with (((hg|hg)|hg)|hg)
 ·exact h0.lt g hg
 ·exact h1.lt g hg
 ·exact h2.lt g hg
 ·exact h3.lt g hg
def SmWire (x:WireD):Prop:=SmL x.parent∧SmL x.res∧SmL x.cap∧SmL x.sink
theorem RWire.parts {w:World} {vv0 vv1 vv2 vv3:Value} {x:WireD} (h:RWire w [vv0,vv1,vv2,vv3] x):RInts w vv0 x.parent∧RInts w vv1 x.res∧RInts w vv2 x.cap∧RInts w vv3 x.sink:=by
 obtain ⟨vv0',vv1',vv2',vv3',he,h0,h1,h2,h3⟩:=h
 injection he with e0 he
 injection he with e1 he
 injection he with e2 he
 injection he with e3 he
 subst e0 e1 e2 e3
 exact ⟨h0,h1,h2,h3⟩
theorem OWire.shape {w:World} {vv0 vv1 vv2 vv3:Value} {x:WireD} {bs:List Nat} (h:OWire w [vv0,vv1,vv2,vv3] x bs):(∃(A:Option Addr) (n:Nat),vv0=.slice A x.parent.length n)∧(∃(A:Option Addr) (n:Nat),vv1=.slice A x.res.length n)∧(∃(A:Option Addr) (n:Nat),vv2=.slice A x.cap.length n)∧(∃(A:Option Addr) (n:Nat),vv3=.slice A x.sink.length n):=by
 obtain ⟨e0,e1,e2,e3⟩:=h.reads.parts
 exact ⟨(by obtain ⟨A,c,h,-⟩:=RList.form e0;exact ⟨A,c,h⟩),(by obtain ⟨A,c,h,-⟩:=RList.form e1;exact ⟨A,c,h⟩),(by obtain ⟨A,c,h,-⟩:=RList.form e2;exact ⟨A,c,h⟩),(by obtain ⟨A,c,h,-⟩:=RList.form e3;exact ⟨A,c,h⟩)⟩
def wtWire (x:WireD):Nat:=List.length x.parent+List.length x.res+List.length x.cap+List.length x.sink
def OWires:World→Value→List WireD→List Nat→Prop:=OList 4 56 OWire
def SmWires (xs:List WireD):Prop:=SmL xs∧∀x∈xs,SmWire x
def wtWires (xs:List WireD):Nat:=wtL wtWire xs
theorem OWires.reads {w:World} {v:Value} {xs:List WireD} {bs:List Nat} (h:OWires w v xs bs):RWires w v xs:=OList.reads h fun _ _ _ h=>h.reads
theorem OWires.same {w w':World} {v:Value} {xs:List WireD} {bs:List Nat} (h:OWires w v xs bs) (g:SameOn bs w w'):OWires w' v xs bs:=OList.same h g fun _ _ _ h g=>h.same g
theorem OWires.lt {w:World} {v:Value} {xs:List WireD} {bs:List Nat} (h:OWires w v xs bs):∀g∈bs,g<w.heap.size:=OList.lt h fun _ _ _ h=>h.lt
theorem info_Wire:(Tryz.prog.info? 56).map (fun i=>(i.zero,i.size))=some (some (.agg #[.slice none 0 0,.slice none 0 0,.slice none 0 0,.slice none 0 0]),4):=by kernel_rfl
theorem bytes_Wire:∀i,Tryz.prog.info? 56=some i→i.bytes≤256:=by
 intro i hi
 have h:(Tryz.prog.info? 56).map (fun i=>decide (i.bytes≤256))=some true:=by kernel_rfl
 rw [hi] at h
 simpa using h
theorem RWire.open_ {w:World} {va vb vc vd:Value} {x:WireD} (h:RWire w [va,vb,vc,vd] x):RInts w va x.parent∧RInts w vb x.res∧RInts w vc x.cap∧RInts w vd x.sink:=h.parts
theorem RWire.shape {w:World} {va vb vc vd:Value} {x:WireD} (h:RWire w [va,vb,vc,vd] x):(∃(A:Option Addr) (n:Nat),va=.slice A x.parent.length n)∧(∃(A:Option Addr) (n:Nat),vb=.slice A x.res.length n)∧(∃(A:Option Addr) (n:Nat),vc=.slice A x.cap.length n)∧(∃(A:Option Addr) (n:Nat),vd=.slice A x.sink.length n):=by
 obtain ⟨a,b,c,d⟩:=h.parts
 exact ⟨(by obtain ⟨A,c,h,-⟩:=RList.form a;exact ⟨A,c,h⟩),(by obtain ⟨A,c,h,-⟩:=RList.form b;exact ⟨A,c,h⟩),(by obtain ⟨A,c,h,-⟩:=RList.form c;exact ⟨A,c,h⟩),(by obtain ⟨A,c,h,-⟩:=RList.form d;exact ⟨A,c,h⟩)⟩
end Go.Proofs.YtlnpefiipdkafaaGreatDoor
/-
  Blocks: owned, small, budget, copy and equality.
-/
namespace Go.Proofs.YtlnpefiipdkafaaGreatDoor
open Go.RowKit
def OBlock (w:World) (cs:List Value) (x:BlockD) (bs:List Nat):Prop :=
 ∃(l i n p ws:Value) (b0 b1 b2:List Nat),cs=[l,i,n,p,ws]∧OLib w [l] ⟨x.lib⟩ b0∧ODesign w [i,n,p] x.design b1∧OWires w ws x.wires b2∧bs=b0++b1++b2
theorem RBlock.mk {w:World} {l i n p ws:Value} {x:BlockD} (h0:RLib w [l] ⟨x.lib⟩) (h1:RDesign w [i,n,p] x.design) (h2:RWires w ws x.wires):RBlock w [l,i,n,p,ws] x:=by
 obtain ⟨v,e,h⟩:=h0
 injection e with e
 subst e
 exact ⟨_,_,_,_,_,rfl,h,h1,h2⟩
theorem RBlock.parts {w:World} {l i n p ws:Value} {x:BlockD} (h:RBlock w [l,i,n,p,ws] x):RLib w [l] ⟨x.lib⟩∧RDesign w [i,n,p] x.design∧RWires w ws x.wires:=by
 obtain ⟨l',i',n',p',ws',e,h0,h1,h2⟩:=h
 injection e with e0 e
 injection e with e1 e
 injection e with e2 e
 injection e with e3 e
 injection e with e4 e
 subst e0 e1 e2 e3 e4
 exact ⟨RLib.mk h0,h1,h2⟩
theorem OBlock.reads {w:World} {cs:List Value} {x:BlockD} {bs:List Nat} (h:OBlock w cs x bs):RBlock w cs x:=by
 obtain ⟨l,i,n,p,ws,b0,b1,b2,rfl,h0,h1,h2,-⟩:=h
 exact RBlock.mk h0.reads h1.reads h2.reads
def wtBlock (x:BlockD):Nat:=wtLib ⟨x.lib⟩+wtDesign x.design+wtWires x.wires
def SmBlock (x:BlockD):Prop:=SmLib ⟨x.lib⟩∧SmDesign x.design∧SmWires x.wires
theorem slices_of_lib {w:World} {v:Value} {xs:List CellD} (h:RLib w [v] ⟨xs⟩):∃(A:Option Addr) (n:Nat),v=.slice A xs.length n:=by
 have:=h.parts
 obtain ⟨A,c,e,-⟩:=RList.form this
 exact ⟨A,c,e⟩
theorem slices_of_design {w:World} {a b c:Value} {x:DesignD} (h:RDesign w [a,b,c] x):(∃(A:Option Addr) (n:Nat),a=.slice A x.insts.length n)∧(∃(A:Option Addr) (n:Nat),b=.slice A x.nets.length n)∧(∃(A:Option Addr) (n:Nat),c=.slice A x.ports.length n):=by
 obtain ⟨h1,h2,h3⟩:=h.parts
 exact ⟨(by obtain ⟨A,c,e,-⟩:=RList.form h1;exact ⟨A,c,e⟩),(by obtain ⟨A,c,e,-⟩:=RList.form h2;exact ⟨A,c,e⟩),(by obtain ⟨A,c,e,-⟩:=RList.form h3;exact ⟨A,c,e⟩)⟩
theorem RBlock.shape {w:World} {l i n p ws:Value} {x:BlockD} (h:RBlock w [l,i,n,p,ws] x):(∃(A:Option Addr) (c:Nat),l=.slice A x.lib.length c)∧(∃(A:Option Addr) (c:Nat),i=.slice A x.design.insts.length c)∧(∃(A:Option Addr) (c:Nat),n=.slice A x.design.nets.length c)∧(∃(A:Option Addr) (c:Nat),p=.slice A x.design.ports.length c)∧(∃(A:Option Addr) (c:Nat),ws=.slice A x.wires.length c):=by
 obtain ⟨h0,h1,h2⟩:=h.parts
 obtain ⟨a,b,c⟩:=slices_of_design h1
 exact ⟨slices_of_lib h0,a,b,c,(by obtain ⟨A,c,e,-⟩:=RList.form h2;exact ⟨A,c,e⟩)⟩
end Go.Proofs.YtlnpefiipdkafaaGreatDoor
