/-
  Rows that grow side by side: instances and nets of a drawn design.
-/
import Derived.Test.YtlnpefiipdkafaaGreatDoorHU
import Derived.Test.YtlnpefiipdkafaaGreatDoorHX
import Derived.Test.YtlnpefiipdkafaaGreatDoorGB
import Derived.Lib.ParseIntBCases
import Derived.Lib.ItoaMem
import Derived.Lib.Replace
import Derived.Lib.Repeat
import Derived.Test.YtlnpefiipdkafaaGreatDoorGJ
import Derived.Test.YtlnpefiipdkafaaGreatDoorGA
import Derived.Laws.IdiomStrings
namespace Go.Proofs.YtlnpefiipdkafaaGreatDoor
open Go.RowKit
def OInstB (w:World) (es:List Value) (x:InstD) (b:List Nat):Prop:=OInst w es x b∧(1≤x.nets.length∧x.nets.length≤8)∧x.name.size≤100
def OStrB (_:World) (es:List Value) (s:ByteArray) (b:List Nat):Prop:=es=[.string s]∧s.size≤100∧b=[]
def OPortB (_:World) (es:List Value) (x:PortD) (b:List Nat):Prop:=es=[.string x.name,.int .i64 x.dir,.int .i64 x.net]∧x.name.size≤100∧b=[]
theorem OInstB.same {w w':World} {es:List Value} {x:InstD} {b:List Nat} (h:OInstB w es x b) (g:SameOn b w w'):OInstB w' es x b:=⟨h.1.same g,h.2⟩
theorem OStrB.same {w w':World} {es:List Value} {x:ByteArray} {b:List Nat} (h:OStrB w es x b) (_:SameOn b w w'):OStrB w' es x b:=h
theorem OPortB.same {w w':World} {es:List Value} {x:PortD} {b:List Nat} (h:OPortB w es x b) (_:SameOn b w w'):OPortB w' es x b:=h
theorem els_nil {α:Type} {sz:Nat} {O:World→List Value→α→List Nat→Prop} {w:World} (hO:∀es x b,O w es x b→b=[]):∀{xs:List α} {cells:List Value} {bss:List (List Nat)},Els sz O w cells xs bss→bss.flatten=[]
 | [],_,_,⟨_,h⟩=>by subst h;rfl
 | x::xs,_,_,⟨es,rest,b,bss',_,_,h3,h4,h5⟩=>by
  subst h4
  rw [List.flatten_cons,hO _ _ _ h3,els_nil hO h5]
  rfl
/-- an own row, what its elements hold listed in r -/
def RW {α:Type} (sz:Nat) (t:TypeId) (O:World→List Value→α→List Nat→Prop) (w:World) (v:Value) (xs:List α) (r:List Nat):Prop :=
 ∃bss,ORow sz t O 0 w v xs bss∧r=bss.flatten
section
variable {α:Type} {sz:Nat} {t:TypeId} {O:World→List Value→α→List Nat→Prop} {w w' u:World} {v v':Value} {xs:List α} {r:List Nat}
theorem RW.keep (h:RW sz t O w v xs r) (g:SameOn (v.ownBlock.toList++r) w w') (hO:∀es x b,O w es x b→SameOn b w w'→O w' es x b):RW sz t O w' v xs r:=by
 obtain ⟨bss,h,rfl⟩:=h
 exact ⟨bss,h.keep g hO,rfl⟩
theorem RW.list (h:RW sz t O w v xs r):OList sz t O w v xs (v.ownBlock.toList++r):=by
 obtain ⟨bss,h,rfl⟩:=h
 exact h.list
theorem RW.slice (h:RW sz t O w v xs r):∃(A:Option Addr) (c:Nat),v=.slice A xs.length c:=by
 obtain ⟨bss,h,rfl⟩:=h
 exact h.slice
theorem RW.row (h:RW sz t O w v xs r):∃cells,w.ownsRow 0 t sz v xs.length cells∧∀(u w4:World) (v':Value) (y:α) (es:List Value) (b:List Nat),Own 0 w.heap.size (v.ownBlock.toList++r)→w.heap.size≤u.heap.size→SameOn (v.ownBlock.toList++r) w u→(∀w w' es x b,O w es x b→SameOn b w w'→O w' es x b)→O u es y b→es.length=sz →
  (∀q∈b,q<u.heap.size∧q∉v.ownBlock.toList++r)→b.Nodup→u.grownBy w4 v.ownBlock→(v'.ownBlock=v.ownBlock∨v'.ownBlock=some u.heap.size)→w4.ownsRow 0 t sz v' (xs.length+1) (cells++es)→RW sz t O w4 v' (xs++[y]) (r++b):=by
 obtain ⟨bss,⟨cells,h1,h2,h3⟩,rfl⟩:=h
 refine ⟨cells,h1,fun u w4 v' y es b ho hsz hs hO hy hl hb hbn g hat hr=>?_⟩
 refine ⟨bss++[b],ORow.snoc (u:=u) (lo:=0) (h2.mono fun es x d hd hx=>hO _ _ _ _ _ hx (hs.sub fun q hq=>List.mem_append_right _ (List.mem_flatten.2 ⟨d,hd,hq⟩))) ?_ (Nat.zero_le _) g hat hr hl hy (fun es x b h g=>hO _ _ _ _ _ h g),by rw [List.flatten_append,List.flatten_singleton]⟩
 refine ⟨List.nodup_append.2 ⟨ho.1,hbn,fun a ha c hc e=>(hb c hc).2 (e ▸ ha)⟩,fun q hq=>⟨Nat.zero_le _,?_⟩⟩
 rcases List.mem_append.1 hq with hq|hq
 ·have:=(ho.2 q hq).2;omega
 ·exact (hb q hq).1
end
theorem OwnQ.perm {Q:Nat→Prop} {hi:Nat} {a b:List Nat} (h:OwnQ Q hi a) (p:a.Perm b):OwnQ Q hi b:=⟨(p.nodup_iff).1 h.1,fun g hg=>h.2 g (p.mem_iff.2 hg)⟩
theorem OwnQ.left {Q:Nat→Prop} {hi:Nat} {a b:List Nat} (h:OwnQ Q hi (a++b)):OwnQ Q hi a:=⟨(List.nodup_append.1 h.1).1,fun g hg=>h.2 g (List.mem_append_left _ hg)⟩
theorem OwnQ.right {Q:Nat→Prop} {hi:Nat} {a b:List Nat} (h:OwnQ Q hi (a++b)):OwnQ Q hi b:=⟨(List.nodup_append.1 h.1).2.1,fun g hg=>h.2 g (List.mem_append_right _ hg)⟩
theorem OwnQ.own {Q:Nat→Prop} {hi:Nat} {a:List Nat} (h:OwnQ Q hi a):Own 0 hi a:=⟨h.1,fun g hg=>⟨Nat.zero_le _,(h.2 g hg).2⟩⟩
/-- a row's block was turned for a new one, or stays -/
theorem OwnQ.head {Q:Nat→Prop} {hi hi' n:Nat} {a a':Option Nat} {l:List Nat} (h:OwnQ Q hi (a.toList++l)) (ha:a'=a∨a'=some n) (hn:hi≤n) (hq:Q n) (hlt:a'=some n→n<hi') (hh:hi≤hi'):OwnQ Q hi' (a'.toList++l):=by
 rcases ha with rfl|rfl
 ·exact h.mono hh
 ·refine ⟨?_,fun g hg=>?_⟩
  ·simp only [Option.toList_some,List.singleton_append,List.nodup_cons]
   exact ⟨fun hm=>by have:=(h.right.2 n hm).2;omega,h.right.1⟩
  ·simp only [Option.toList_some,List.singleton_append,List.mem_cons] at hg
   rcases hg with rfl|hg
   ·exact ⟨hq,hlt rfl⟩
   ·have:=h.right.2 g hg
    exact ⟨this.1,Nat.lt_of_lt_of_le this.2 hh⟩
/-- blocks more -/
theorem OwnQ.more {Q:Nat→Prop} {hi hi':Nat} {l b:List Nat} (h:OwnQ Q hi l) (hb:OwnQ Q hi' b) (hd:∀q∈b,q∉l) (hh:hi≤hi'):OwnQ Q hi' (l++b):=by
 refine ⟨List.nodup_append.2 ⟨h.1,hb.1,fun a ha c hc e=>hd c hc (e ▸ ha)⟩,fun g hg=>?_⟩
 rcases List.mem_append.1 hg with hg|hg
 ·exact ⟨(h.2 g hg).1,Nat.lt_of_lt_of_le (h.2 g hg).2 hh⟩
 ·exact hb.2 g hg
def RInstW:World→Value→List InstD→List Nat→Prop:=RW 3 72 OInstB
def RStrW:World→Value→List ByteArray→List Nat→Prop:=RW 1 9 OStrB
/-- instances and nets as they grow -/
def DSt (Q:Nat→Prop) (w:World) (vi:Value) (xs:List InstD) (vn:Value) (ns:List ByteArray):Prop :=
 ∃r,RInstW w vi xs r∧RStrW w vn ns []∧OwnQ Q w.heap.size (vn.ownBlock.toList++(vi.ownBlock.toList++r))
section
variable {Q:Nat→Prop} {w w':World} {vi vn:Value} {xs:List InstD} {ns:List ByteArray}
theorem RStrW.nil {r:List Nat} (h:RStrW w vn ns r):r=[]:=by
 obtain ⟨bss,⟨cells,_,h2,_⟩,rfl⟩:=h
 exact els_nil (fun _ _ _ h=>h.2.2) h2
theorem DSt.next {ds:List Nat} (h:DSt Q w vi xs vn ns) (c:Chg ds w w') (hd:∀g∈ds,¬Q g):DSt Q w' vi xs vn ns:=by
 obtain ⟨r,h1,h2,h3⟩:=h
 have key:∀bs:List Nat,(∀q∈bs,q∈vn.ownBlock.toList++(vi.ownBlock.toList++r))→SameOn bs w w':=fun bs hs=>c.same (fun q hq=>(h3.2 q (hs q hq)).2) (fun q hq hm=>hd q hm (h3.2 q (hs q hq)).1)
 exact ⟨r,RW.keep h1 (key _ fun q hq=>List.mem_append_right _ hq) (fun _ _ _ h g=>h.same g),RW.keep h2 (key _ fun q hq=>List.mem_append_left _ (by simpa using hq)) (fun _ _ _ h _=>h),h3.mono c.size⟩
theorem DSt.net (h:DSt Q w vi xs vn ns):∃cells,w.ownsRow 0 9 1 vn ns.length cells∧∀(u w4:World) (v':Value) (s:ByteArray) (ds:List Nat),Chg ds w u→(∀g∈ds,¬Q g)→Q u.heap.size→s.size≤100→u.grownBy w4 vn.ownBlock→(v'.ownBlock=vn.ownBlock∨v'.ownBlock=some u.heap.size)→w4.ownsRow 0 9 1 v' (ns.length+1) (cells++[.string s])→DSt Q w4 vi xs v' (ns++[s]):=by
 obtain ⟨r,h1,h2,h3⟩:=h
 obtain ⟨cells,hr,H⟩:=RW.row h2
 refine ⟨cells,hr,fun u w4 v' s ds c hd hQ hs g hat hr4=>?_⟩
 have key:∀bs:List Nat,(∀q∈bs,q∈vn.ownBlock.toList++(vi.ownBlock.toList++r))→SameOn bs w u:=fun bs hs=>c.same (fun q hq=>(h3.2 q (hs q hq)).2) (fun q hq hm=>hd q hm (h3.2 q (hs q hq)).1)
 have h4:=H u w4 v' s [.string s] [] (by simpa using h3.left.own) c.size (key _ fun q hq=>List.mem_append_left _ (by simpa using hq)) (fun _ _ _ _ _ h _=>h) ⟨rfl,hs,rfl⟩ rfl (fun _ h=>nomatch h) List.nodup_nil g hat hr4
 refine ⟨r,RW.keep h1 (w':=w4) (fun q hq=>?_) (fun _ _ _ h g=>h.same g),h4,h3.head (n:=u.heap.size) hat c.size hQ (fun e=>(hr4.lt _ e).2) (Nat.le_trans c.size g.size)⟩
 have hm:=h3.2 q (List.mem_append_right _ hq)
 have hn:=h3.1
 rw [List.nodup_append] at hn
 exact (g.block q (Nat.lt_of_lt_of_le hm.2 c.size) (fun e=>hn.2.2 q (by rw [←e];simp) q hq rfl)).trans (key _ (fun q hq=>List.mem_append_right _ hq) q hq)
theorem DSt.imp {Q':Nat→Prop} (h:DSt Q w vi xs vn ns) (hq:∀g,g<w.heap.size→Q g→Q' g):DSt Q' w vi xs vn ns:=by
 obtain ⟨r,h1,h2,h3⟩:=h
 exact ⟨r,h1,h2,h3.1,fun g hg=>⟨hq g (h3.2 g hg).2 (h3.2 g hg).1,(h3.2 g hg).2⟩⟩
theorem DSt.inst {Q':Nat→Prop} (h:DSt Q' w vi xs vn ns) (hQ':∀q,Q' q→Q q):∃cells,w.ownsRow 0 72 3 vi xs.length cells∧∀(u w4:World) (v':Value) (y:InstD) (es:List Value) (b:List Nat) (ds:List Nat),Chg ds w u→(∀g∈ds,¬Q' g)→Q u.heap.size→OInstB u es y b→es.length=3→OwnQ Q u.heap.size b→(∀q∈b,¬Q' q) →
  u.grownBy w4 vi.ownBlock→(v'.ownBlock=vi.ownBlock∨v'.ownBlock=some u.heap.size)→w4.ownsRow 0 72 3 v' (xs.length+1) (cells++es)→DSt Q w4 v' (xs++[y]) vn ns:=by
 obtain ⟨r,h1,h2,h3⟩:=h
 obtain ⟨cells,hr,H⟩:=RW.row h1
 refine ⟨cells,hr,fun u w4 v' y es b ds c hd hQ hy hl hb hbq g hat hr4=>?_⟩
 have key:∀bs:List Nat,(∀q∈bs,q∈vn.ownBlock.toList++(vi.ownBlock.toList++r))→SameOn bs w u:=fun bs hs=>c.same (fun q hq=>(h3.2 q (hs q hq)).2) (fun q hq hm=>hd q hm (h3.2 q (hs q hq)).1)
 have h4:=H u w4 v' y es b h3.right.own c.size (key _ fun q hq=>List.mem_append_right _ hq) (fun _ _ _ _ _ h g=>h.same g) hy hl (fun q hq=>⟨(hb.2 q hq).2,fun hm=>hbq q hq (h3.2 q (List.mem_append_right _ hm)).1⟩) hb.1 g hat hr4
 refine ⟨r++b,h4,RW.keep h2 (w':=w4) (fun q hq=>?_) (fun _ _ _ h _=>h),?_⟩
 ·rw [List.append_nil] at hq
  have hm:=h3.2 q (List.mem_append_left _ hq)
  have hn:=h3.1
  rw [List.nodup_append] at hn
  exact (g.block q (Nat.lt_of_lt_of_le hm.2 c.size) (fun e=>hn.2.2 q hq q (List.mem_append_left _ (by rw [←e];simp)) rfl)).trans (key [q] (fun q' hq'=>by simp at hq';subst hq';exact List.mem_append_left _ hq) q (by simp))
 ·have h5:OwnQ Q u.heap.size (vi.ownBlock.toList++(vn.ownBlock.toList++r)):=(OwnQ.mono (⟨h3.1,fun q hq=>⟨hQ' q (h3.2 q hq).1,(h3.2 q hq).2⟩⟩:OwnQ Q w.heap.size _) c.size).perm (by
   have hpm:=List.Perm.append_right r (List.perm_append_comm (l₁:=vn.ownBlock.toList) (l₂:=vi.ownBlock.toList))
   rw [List.append_assoc,List.append_assoc] at hpm
   exact hpm)
  have h6:=h5.more hb (fun q hq hm=>hbq q hq (h3.2 q (by
   rw [List.mem_append,List.mem_append] at hm ⊢
   rcases hm with h|h|h
   ·exact .inr (.inl h)
   ·exact .inl h
   ·exact .inr (.inr h))).1) (Nat.le_refl _)
  rw [List.append_assoc,List.append_assoc] at h6
  have h7:=h6.head (n:=u.heap.size) (hi':=w4.heap.size) hat (Nat.le_refl _) hQ (fun e=>(hr4.lt _ e).2) g.size
  have hpm:=List.Perm.append_right (r++b) (List.perm_append_comm (l₁:=v'.ownBlock.toList) (l₂:=vn.ownBlock.toList))
  rw [List.append_assoc,List.append_assoc] at hpm
  exact h7.perm hpm
end
end Go.Proofs.YtlnpefiipdkafaaGreatDoor
/-
  A drawn design's instances and nets when they no longer grow.
-/
namespace Go.Proofs.YtlnpefiipdkafaaGreatDoor
open Go.RowKit
/-- instances, all known, and nets whose row may grow -/
def DF (Q:Nat→Prop) (w:World) (vi:Value) (xs:List InstD) (vn:Value) (ns:List ByteArray):Prop :=
 ∃bi,OList 3 72 OInstB w vi xs bi∧RStrW w vn ns []∧OwnQ Q w.heap.size (vn.ownBlock.toList++bi)
section
variable {Q:Nat→Prop} {w w':World} {vi vn:Value} {xs:List InstD} {ns:List ByteArray}
theorem DSt.df (h:DSt Q w vi xs vn ns):DF Q w vi xs vn ns:=by
 obtain ⟨r,h1,h2,h3⟩:=h
 exact ⟨_,RW.list h1,h2,h3⟩
theorem DF.same (h:DF Q w vi xs vn ns) (g:∀q,Q q→q<w.heap.size→w'.heap[q]?=w.heap[q]?):DF Q w' vi xs vn ns:=by
 obtain ⟨bi,h1,h2,h3⟩:=h
 have key:∀bs:List Nat,(∀q∈bs,q∈vn.ownBlock.toList++bi)→SameOn bs w w':=fun bs hs q hq=>g q (h3.2 q (hs q hq)).1 (h3.2 q (hs q hq)).2
 exact ⟨bi,OList.same h1 (key _ fun q hq=>List.mem_append_right _ hq) (fun _ _ _ h g=>h.same g),RW.keep h2 (key _ fun q hq=>List.mem_append_left _ (by simpa using hq)) (fun _ _ _ h _=>h),h3.1,fun q hq=>⟨(h3.2 q hq).1,SameOn.size_lt (key _ fun q hq=>hq) hq (h3.2 q hq).2⟩⟩
theorem DF.next {ds:List Nat} (h:DF Q w vi xs vn ns) (c:Chg ds w w') (hd:∀g∈ds,¬Q g):DF Q w' vi xs vn ns :=
 h.same fun q hq hl=>c.block q hl fun hm=>hd q hm hq
theorem DF.imp {Q':Nat→Prop} (h:DF Q w vi xs vn ns) (hq:∀g,g<w.heap.size→Q g→Q' g):DF Q' w vi xs vn ns:=by
 obtain ⟨bi,h1,h2,h3⟩:=h
 exact ⟨bi,h1,h2,h3.1,fun g hg=>⟨hq g (h3.2 g hg).2 (h3.2 g hg).1,(h3.2 g hg).2⟩⟩
theorem DF.slices (h:DF Q w vi xs vn ns):(∃(A:Option Addr) (c:Nat),vi=.slice A xs.length c)∧∃(A:Option Addr) (c:Nat),vn=.slice A ns.length c:=by
 obtain ⟨bi,h1,h2,_⟩:=h
 refine ⟨?_,RW.slice h2⟩
 have:=RList.form (OList.reads (R:=RInst) h1 fun _ _ _ h=>h.1.reads)
 obtain ⟨A,c,e,-⟩:=this
 exact ⟨A,c,e⟩
theorem DF.reads (h:DF Q w vi xs vn ns):RInsts w vi xs∧RStrs w vn ns:=by
 obtain ⟨bi,h1,h2,_⟩:=h
 exact ⟨OList.reads h1 fun _ _ _ h=>h.1.reads,OList.reads (RW.list h2) fun _ _ _ h=>⟨h.1,by have:=h.2.1;unfold maxLen;omega⟩⟩
theorem DF.small (h:DF Q w vi xs vn ns):(∀x∈xs,(1≤x.nets.length∧x.nets.length≤8)∧x.name.size≤100)∧∀s∈ns,s.size≤100:=by
 obtain ⟨bi,h1,h2,_⟩:=h
 refine ⟨?_,?_⟩
 ·intro x hx
  obtain ⟨i,hi⟩:=List.getElem?_of_mem hx
  rcases h1 with ⟨_,rfl,_⟩|⟨g,c,cs,bss,hv,_,_,_,_,_,hc⟩
  ·cases hx
  ·obtain ⟨es,b,_,_,_,e4⟩:=hc i x hi
   exact e4.2
 ·obtain ⟨bss,⟨cells,_,hE,_⟩,_⟩:=h2
  have h3:Els 1 (fun w es x b=>OStrB w es x b∧x.size≤100) w cells ns bss:=hE.mono (O':=fun w es x b=>OStrB w es x b∧x.size≤100) fun es x b _ ho=>⟨ho,ho.2.1⟩
  exact h3.all
/-- one instance's cells, and what is left when a cell of it, or its first net, turns -/
theorem DF.inst {i:Nat} (h:DF Q w vi xs vn ns) (hi:i<xs.length):∃(gi ci gn cn:Nat) (x:InstD) (n0:Int),vi=.slice (some ⟨gi,0,none⟩) xs.length ci∧xs[i]?=some x∧(Q gi∧gi<w.heap.size∧∀o,w.frozen? ⟨gi,o,none⟩=false)∧(Q gn∧gn<w.heap.size∧∀o,w.frozen? ⟨gn,o,none⟩=false)∧gi≠gn∧1≤x.nets.length ∧
  (w.cell? ⟨gi,i * 3,none⟩=some (.string x.name)∧w.cell? ⟨gi,i * 3+1,none⟩=some (.int .i64 x.cell)∧w.cell? ⟨gi,i * 3+2,none⟩=some (.slice (some ⟨gn,0,none⟩) x.nets.length cn)∧w.cell? ⟨gn,0,none⟩=some (.int .i64 n0)) ∧
  (∀(z:Int),DF Q (w.setCell ⟨gn,0,none⟩ (.int .i64 z)) vi (xs.set i { x with nets:=x.nets.set 0 z }) vn ns) ∧
  ∀(j:Nat) (v:Value) (y:InstD),j<2→(∀d:Value,[Value.string x.name,.int .i64 x.cell,d].set j v=[.string y.name,.int .i64 y.cell,d])→y.nets=x.nets→y.name.size≤100→DF Q (w.setCell ⟨gi,i * 3+j,none⟩ v) vi (xs.set i y) vn ns:=by
 obtain ⟨bi,h1,h2,h3⟩:=h
 obtain ⟨x,hx⟩:∃x,xs[i]?=some x:=⟨_,List.getElem?_eq_getElem hi⟩
 have hnb:=h3.right.1
 obtain ⟨gi,ci,hv,hg,_,_,hgl,hgf,-⟩:=OList.rowAt h1 (by omega)
 obtain ⟨g',c',cs,es,b,hv',hB,hgm,hgb,hbs,hbn,hel,hes,ho,FIN⟩:=OList.turn (O':=OInstB) h1 hnb hx
 rw [hv] at hv'
 injection hv' with q1 q2 q3
 injection q1 with q1
 injection q1 with q1
 subst q1 q3
 have ho':=ho
 obtain ⟨⟨vv,b2,rfl,hz,hI,rfl⟩,hlen,hns⟩:=ho
 obtain ⟨gn,cn,n0s,rfl,hbe,l1,l2,hBn,l3,hat⟩:=hI.row hlen.1
 subst hbe
 obtain ⟨n0,hn0⟩:∃n0,x.nets[0]?=some n0:=⟨_,List.getElem?_eq_getElem (by omega)⟩
 have hgn:gn∈bi:=hbs gn (by simp)
 have qi:=h3.2 gi (List.mem_append_right _ hgm)
 have qn:=h3.2 gn (List.mem_append_right _ hgn)
 have hne:gi≠gn:=fun e=>hgb (by simp [e])
 have hvn:∀q∈bi,∀k∈vn.ownBlock.toList,k≠q:=fun q hq k hk e=>by
  have hn:=h3.1
  rw [List.nodup_append] at hn
  exact hn.2.2 k hk q hq e
 refine ⟨gi,ci,gn,cn,x,n0,hv,hx,⟨qi.1,qi.2,hgf⟩,⟨qn.1,qn.2,hBn.frozen⟩,hne,hlen.1,⟨by rw [hB.cell];simpa using hes 0 _ rfl,by rw [hB.cell];exact hes 1 _ rfl,by rw [hB.cell];exact hes 2 _ rfl,hI.at hn0⟩,fun z=>?_,fun j v y hj hy hyn hyz=>?_⟩
 ·have hc:Chg [gn] w (w.setCell ⟨gn,0,none⟩ (.int .i64 z)):=(Chg.refl _ _).setCell (by simp) _
  obtain ⟨bi',hL,hm⟩:=FIN (w.setCell ⟨gn,0,none⟩ (.int .i64 z)) cs _ { x with nets:=x.nets.set 0 z } [gn] (hB.chg hc (by simpa using hne)) (fun _ _=>rfl) hel hes
   ⟨⟨_,_,rfl,hz,hI.set_ (by omega) z,rfl⟩,by simpa using hlen,hns⟩ (fun es y d hd hy=>hy.same (hc.same (fun q hq=>(h3.2 q (List.mem_append_right _ (hd q hq).1)).2) (fun q hq hmm=>(hd q hq).2.1 hmm)))
  have hsub:∀q∈bi',q∈bi:=fun q hq=>by
   rcases hm q hq with h|h
   ·exact h
   ·simp at h;subst h;exact hgn
  have hbi':OList 3 72 OInstB (w.setCell ⟨gn,0,none⟩ (.int .i64 z)) vi (xs.set i { x with nets:=x.nets.set 0 z }) bi:=by
   rcases h1 with ⟨e,_,_⟩|⟨g2,c2,cs2,bss,e2,k1,k2,kb,kl,kbs,kc⟩
   ·rw [hv] at e;cases e
   ·have e2':=e2
    rw [hv] at e2'
    injection e2' with q1 q2 q3
    injection q1 with q1
    injection q1 with q1
    subst q1 q3
    refine .inr ⟨gi,ci,cs2,bss,by rw [List.length_set];exact e2,by rw [List.length_set];exact k1,k2,kb.chg hc (by simpa using hne),by rw [List.length_set];exact kl,kbs,fun m y hy=>?_⟩
    by_cases hmi:m=i
    ·subst hmi
     rw [List.getElem?_set_self hi] at hy
     injection hy with hy
     subst hy
     obtain ⟨es',b',f1,f2,f3,f4⟩:=kc m x hx
     obtain ⟨⟨vv',b2',rfl,_,hI',rfl⟩,_,_⟩:=f4
     have hvv:vv'=.slice (some ⟨gn,0,none⟩) x.nets.length cn:=by
      have z1:=f2 2 _ rfl
      rw [←kb.cell,hB.cell,hes 2 _ rfl] at z1
      injection z1 with z1
      exact z1.symm
     subst hvv
     obtain ⟨g9,_,_,e9,eb9,-⟩:=hI'.row hlen.1
     injection e9 with e9
     injection e9 with e9
     injection e9 with e9
     subst e9 eb9
     exact ⟨_,_,f1,f2,f3,⟨_,_,rfl,hz,hI.set_ (by omega) z,rfl⟩,by simpa using hlen,hns⟩
    ·rw [List.getElem?_set_ne (fun q=>hmi q.symm)] at hy
     obtain ⟨es',b',f1,f2,f3,f4⟩:=kc m y hy
     refine ⟨es',b',f1,f2,f3,f4.same (hc.same (fun q hq=>?_) (fun q hq hmm=>?_))⟩
     ·exact (h3.2 q (List.mem_append_right _ (by rw [kbs];exact List.mem_cons_of_mem _ (List.mem_flatten.2 ⟨b',List.mem_of_getElem? f3,hq⟩)))).2
     ·simp at hmm
      subst hmm
      obtain ⟨es0,b0,r1,r2,r3,r4⟩:=kc i x hx
      obtain ⟨⟨vv',b2',rfl,_,hI',rfl⟩,_,_⟩:=r4
      have hvv:vv'=.slice (some ⟨q,0,none⟩) x.nets.length cn:=by
       have z1:=r2 2 _ rfl
       rw [←kb.cell,hB.cell,hes 2 _ rfl] at z1
       injection z1 with z1
       exact z1.symm
      subst hvv
      obtain ⟨g9,_,_,e9,eb9,-⟩:=hI'.row hlen.1
      injection e9 with e9
      injection e9 with e9
      injection e9 with e9
      subst e9 eb9
      have hnd:=hnb
      rw [kbs,List.nodup_cons] at hnd
      have hp:=List.pairwise_flatten.1 hnd.2
      obtain ⟨i1,i2⟩:=List.getElem?_eq_some_iff.1 f3
      obtain ⟨j1,j2⟩:=List.getElem?_eq_some_iff.1 r3
      rcases Nat.lt_or_gt_of_ne hmi with hlt|hgt
      ·have:=(List.pairwise_iff_getElem.1 hp.2) m i i1 j1 hlt
       rw [i2,j2] at this
       exact this _ hq _ (by simp) rfl
      ·have:=(List.pairwise_iff_getElem.1 hp.2) i m j1 i1 hgt
       rw [i2,j2] at this
       exact this _ (by simp) _ hq rfl
  refine ⟨bi,hbi',RW.keep h2 (hc.same (fun q hq=>(h3.2 q (List.mem_append_left _ (by simpa using hq))).2) (fun q hq hmm=>by simp at hmm;subst hmm;exact hvn _ hgn _ (by simpa using hq) rfl)) (fun _ _ _ h _=>h),h3.mono hc.size⟩
 ·have hc:Chg [gi] w (w.setCell ⟨gi,i * 3+j,none⟩ v):=(Chg.refl _ _).setCell (by simp) _
  have h1':=h1
  rw [hv] at h1'
  have key:=OList.put (i:=i) (j:=j) (u:=v) (x':=y) h1' hnb (by omega) hx (fun es b hh=>by
   obtain ⟨⟨vv,b2,rfl,_,hI2,rfl⟩,_,_⟩:=hh
   exact ⟨⟨vv,b,hy vv,by unfold maxLen;omega,by rw [hyn];exact hI2,rfl⟩,by rw [hyn];exact hlen,hyz⟩) (fun _ _ _ h g=>h.same g)
  refine ⟨bi,by rw [hv];exact key,RW.keep h2 (hc.same (fun q hq=>(h3.2 q (List.mem_append_left _ (by simpa using hq))).2) (fun q hq hmm=>by simp at hmm;subst hmm;exact hvn _ hgm _ (by simpa using hq) rfl)) (fun _ _ _ h _=>h),h3.mono hc.size⟩
end
end Go.Proofs.YtlnpefiipdkafaaGreatDoor
/-
  Texts of times and numbers: what they are, and that they are read back.
-/
namespace Go.Proofs.YtlnpefiipdkafaaGreatDoor
open Go.Lib

def isDig (c:UInt8):Prop:=48≤c.toNat∧c.toNat≤57
def dig3 (r:Nat):List UInt8:=[UInt8.ofNat (48+r / 100),UInt8.ofNat (48+r / 10 % 10),UInt8.ofNat (48+r % 10)]
/-- a time's text, ahead of its sign -/
def absL (n:Nat):List UInt8:=decDigits (n / 1000)++([46]++dig3 (n % 1000))
def fmtL (t:Int):List UInt8:=if t<0 then 45::absL t.natAbs else absL t.natAbs
def isT (t:Int):Prop:=-1000000000≤t∧t≤1000000000
instance (t:Int):Decidable (isT t):=by unfold isT;infer_instance
def fmtV (t:Int):List UInt8:=if isT t then fmtL t else []
theorem dec_big {u:Nat} (h:¬u<10):decDigits u=decDigits (u / 10)++[UInt8.ofNat (48+u % 10)]:=by rw [decDigits,dif_neg h]
theorem dec_1000 {r:Nat} (h:r<1000):decDigits (1000+r)=UInt8.ofNat 49::dig3 r:=by
 rw [dec_big (by omega),show (1000+r) / 10=100+r / 10 by omega,dec_big (by omega),show (100+r / 10) / 10=10+r / 100 by omega,dec_big (by omega),show (10+r / 100) / 10=1 by omega,decDigits_one (by omega),
  show (10+r / 100) % 10=r / 100 by omega,show (100+r / 10) % 10=r / 10 % 10 by omega,show (1000+r) % 10=r % 10 by omega]
 rfl
theorem pad3 {r:Nat} (h:r<1000):repeatL [48] (3 - (decDigits r).length)++decDigits r=dig3 r:=by
 by_cases h1:r<10
 ·rw [decDigits_one h1]
  have e1:r / 100=0:=by omega
  have e2:r / 10 % 10=0:=by omega
  have e3:r % 10=r:=by omega
  unfold dig3
  rw [e1,e2,e3]
  rfl
 ·by_cases h2:r<100
  ·rw [decDigits_two h1 h2]
   have e1:r / 100=0:=by omega
   have e2:r / 10 % 10=r / 10:=by omega
   unfold dig3
   rw [e1,e2]
   rfl
  ·rw [dec_big h1,decDigits_two (by omega) (by omega)]
   have e1:r / 10 / 10=r / 100:=by omega
   unfold dig3
   rw [e1]
   rfl
theorem ofNat_dig {d:Nat} (h:d<10):(UInt8.ofNat (48+d)).toNat=48+d:=by
 rw [UInt8.toNat_ofNat'];omega
theorem dec_digs (u:Nat):∀c∈decDigits u,isDig c:=by
 induction u using Nat.strongRecOn with
 | _ u ih =>
  by_cases h:u<10
  ·rw [decDigits_one h]
   intro c hc
   obtain rfl:=List.mem_singleton.1 hc
   unfold isDig
   rw [ofNat_dig h]
   omega
  ·rw [dec_big h]
   intro c hc
   rcases List.mem_append.1 hc with hc|hc
   ·exact ih (u / 10) (by omega) c hc
   ·obtain rfl:=List.mem_singleton.1 hc
    unfold isDig
    rw [ofNat_dig (by omega)]
    omega
theorem dig3_digs {r:Nat} (h:r<1000):∀c∈dig3 r,isDig c:=by
 intro c hc
 unfold dig3 at hc
 simp only [List.mem_cons,List.not_mem_nil,or_false] at hc
 unfold isDig
 rcases hc with rfl|rfl|rfl
 ·rw [ofNat_dig (by omega)];omega
 ·rw [ofNat_dig (by omega)];omega
 ·rw [ofNat_dig (by omega)];omega
/-- the number that digits spell, behind acc -/
def valOf (acc:Nat) (l:List UInt8):Nat:=l.foldl (fun a c=>a * 10+(c.toNat - 48)) acc
theorem valOf_append (acc:Nat) (a b:List UInt8):valOf acc (a++b)=valOf (valOf acc a) b:=List.foldl_append ..
theorem valOf_dec (u:Nat):valOf 0 (decDigits u)=u:=by
 induction u using Nat.strongRecOn with
 | _ u ih =>
  by_cases h:u<10
  ·rw [decDigits_one h]
   show 0 * 10+((UInt8.ofNat (48+u)).toNat - 48)=u
   rw [ofNat_dig h]
   omega
  ·rw [dec_big h,valOf_append,ih (u / 10) (by omega)]
   show u / 10 * 10+((UInt8.ofNat (48+u % 10)).toNat - 48)=u
   rw [ofNat_dig (by omega)]
   omega
theorem valOf_dig3 (acc:Nat) {r:Nat} (h:r<1000):valOf acc (dig3 r)=acc * 1000+r:=by
 show ((acc * 10+((UInt8.ofNat (48+r / 100)).toNat - 48)) * 10+((UInt8.ofNat (48+r / 10 % 10)).toNat - 48)) * 10+((UInt8.ofNat (48+r % 10)).toNat - 48)=_
 rw [ofNat_dig (by omega),ofNat_dig (by omega),ofNat_dig (by omega)]
 omega
theorem valOf_ge (acc:Nat) (l:List UInt8):acc≤valOf acc l:=by
 induction l generalizing acc with
 | nil=>exact Nat.le_refl _
 | cons c l ih=>exact Nat.le_trans (by omega) (ih (acc * 10+(c.toNat - 48)))
theorem parseU {M acc:Nat} {l:List UInt8} (hd:∀c∈l,isDig c) (h:valOf acc l≤M) (hM:valOf acc l<1844674407370955162):parseUintM M acc l=.ok (valOf acc l):=by
 induction l generalizing acc with
 | nil=>rfl
 | cons c l ih =>
  have hc:=hd c (by simp)
  have e:valOf acc (c::l)=valOf (acc * 10+(c.toNat - 48)) l:=rfl
  rw [e] at h hM ⊢
  have g:=valOf_ge (acc * 10+(c.toNat - 48)) l
  rw [parseUintM,if_pos (show 48≤c.toNat∧c.toNat≤57 from hc),if_neg (by omega),if_neg (by omega)]
  exact ih (fun x hx=>hd x (by simp [hx])) h hM
theorem dec_ne (u:Nat):decDigits u≠[]:=by
 rw [decDigits]
 split<;>simp
/-- the digits of a text, without its point, are read as the number -/
theorem parse_abs {n:Nat} (h:n≤1000000000):parseUintB 64 (decDigits (n / 1000)++dig3 (n % 1000))=.ok n:=by
 have hv:valOf 0 (decDigits (n / 1000)++dig3 (n % 1000))=n:=by
  rw [valOf_append,valOf_dec,valOf_dig3 _ (by omega)]
  omega
 unfold parseUintB
 rw [if_neg (by intro e;exact dec_ne _ (List.append_eq_nil_iff.1 e).1),parseU (fun c hc=>?_) (by rw [hv];omega) (by rw [hv];omega),hv]
 rcases List.mem_append.1 hc with hc|hc
 ·exact dec_digs _ c hc
 ·exact dig3_digs (by omega) c hc
theorem dec_head (u:Nat):∃(c:UInt8) (l:List UInt8),decDigits u=c::l∧isDig c:=by
 match h:decDigits u with
 | []=>exact absurd h (dec_ne u)
 | c::l=>exact ⟨c,l,rfl,dec_digs u c (by rw [h];simp)⟩
theorem parse_fmt {t:Int} (h:isT t):parseIntB 64 (if t<0 then 45::(decDigits (t.natAbs / 1000)++dig3 (t.natAbs % 1000)) else decDigits (t.natAbs / 1000)++dig3 (t.natAbs % 1000))=.ok t:=by
 unfold isT at h
 have hp:=@parse_abs t.natAbs (by omega)
 split
 ·rename_i hn
  rw [parseIntB_minus,hp]
  unfold signedC
  simp only []
  rw [if_neg (by omega)]
  congr 1
  omega
 ·rename_i hn
  obtain ⟨c,l,e,hc⟩:=dec_head (t.natAbs / 1000)
  rw [e,List.cons_append] at hp ⊢
  unfold isDig at hc
  rw [parseIntB_plain 64 c _ (by omega) (by omega),hp]
  unfold signlessC
  simp only []
  rw [if_neg (by omega)]
  congr 1
  omega
theorem index_at (c:UInt8) (b:List UInt8):∀(a:List UInt8),c∉a→index (a++c::b) [c]=a.length
 | [],_=>by simp [index,List.isPrefixOf]
 | x::a,h=>by
  simp at h
  have ih:=index_at c b a h.2
  have hx:(c==x)=false:=by simpa using h.1
  show (if [c].isPrefixOf (x::(a++c::b)) then 0 else if index (a++c::b) [c]==-1 then -1 else index (a++c::b) [c]+1)=_
  rw [ih]
  simp [List.isPrefixOf,hx]
theorem replace_at {a b:List UInt8} (h:46∉a):replace (a++46::b) [46] [] 1=a++b:=by
 have hi:=index_at 46 b a h
 have hc:1≤count (a++46::b) [46]:=by rw [count_hit (by simp) hi];omega
 have e1:replaceNum (a++46::b) [46] 1=1:=by unfold replaceNum;rw [if_neg (by omega)];rfl
 unfold replace
 rw [if_neg (by simp),e1,replaceK_hit _ _ _ _ _ hi]
 simp [replaceK]
theorem not46 {c:UInt8} (h:isDig c):c≠46:=by
 rintro rfl
 unfold isDig at h
 have:(46:UInt8).toNat=46:=rfl
 omega
/-- the text without its point -/
theorem replace_fmt (t:Int):replace (fmtL t) [46] [] 1=(if t<0 then 45::(decDigits (t.natAbs / 1000)++dig3 (t.natAbs % 1000)) else decDigits (t.natAbs / 1000)++dig3 (t.natAbs % 1000)):=by
 have hd:46∉decDigits (t.natAbs / 1000):=fun hm=>not46 (dec_digs _ _ hm) rfl
 unfold fmtL absL
 split
 ·rw [show (45::(decDigits (t.natAbs / 1000)++([46]++dig3 (t.natAbs % 1000))))=(45::decDigits (t.natAbs / 1000))++46::dig3 (t.natAbs % 1000) by simp,replace_at (by simp;exact hd)]
  rfl
 ·rw [show (decDigits (t.natAbs / 1000)++([46]++dig3 (t.natAbs % 1000)))=decDigits (t.natAbs / 1000)++46::dig3 (t.natAbs % 1000) by simp,replace_at hd]
/-- a time is read back from its text -/
theorem read_fmt {t:Int} (h:isT t):parseIntB 64 (replace (fmtL t) [46] [] 1)=.ok t:=by rw [replace_fmt,parse_fmt h]
theorem fmt_inj {t u:Int} (h:isT t) (k:isT u) (e:fmtL t=fmtL u):t=u:=by
 have h1:=read_fmt h
 rw [e,read_fmt k] at h1
 injection h1 with h1
 exact h1.symm
end Go.Proofs.YtlnpefiipdkafaaGreatDoor
/-
  A drawn region in which three operations may come up: all ways.
-/
namespace Go.Proofs.YtlnpefiipdkafaaGreatDoor
open Go.RowKit
section
variable {P:Program} {l:List Oper} {Q:Exit→Act→World→Prop} {S:World→Prop}
theorem regCall3 (i j k:Nat) {o p q:Oper} {fuel:Nat} {listed:Array Bool} {a:Act} {w:World}
  (h:∀K':Act→World→Prop,Shut (∀a w,S w→(S w→wpAnyH P .any l.toArray Q S fuel (listed.setIfInBounds i true) a w)→K' a w)→Oper.wp P o a w K' Q)
  (h2:∀K':Act→World→Prop,Shut (∀a w,S w→(S w→wpAnyH P .any l.toArray Q S fuel (listed.setIfInBounds j true) a w)→K' a w)→Oper.wp P p a w K' Q)
  (h3:∀K':Act→World→Prop,Shut (∀a w,S w→(S w→wpAnyH P .any l.toArray Q S fuel (listed.setIfInBounds k true) a w)→K' a w)→Oper.wp P q a w K' Q)
  (hi:l[i]?=some o:=by rfl) (hj:l[j]?=some p:=by rfl) (hk:l[k]?=some q:=by rfl) (hr:Region.ready .any l.toArray listed=[i,j,k]:=by kernel_rfl)
  (hw:Region.wanted o (yielded l.toArray a.tmps)=true:=by rfl) (hw2:Region.wanted p (yielded l.toArray a.tmps)=true:=by rfl) (hw3:Region.wanted q (yielded l.toArray a.tmps)=true:=by rfl):wpAnyH P .any l.toArray Q S (fuel+1) listed a w:=by
 refine wpAnyH_ready hr (by simp) (AllReadyH.cons (o:=o) (by simpa using hi) (fun K hK=>?_) (AllReadyH.cons (o:=p) (by simpa using hj) (fun K hK=>?_) (AllReadyH.cons (o:=q) (by simpa using hk) (fun K hK=>?_) AllReadyH.nil)))
 ·rw [if_pos hw]
  exact h K hK
 ·rw [if_pos hw2]
  exact h2 K hK
 ·rw [if_pos hw3]
  exact h3 K hK
end
end Go.Proofs.YtlnpefiipdkafaaGreatDoor
/-
  A number's text, the reference's.
-/
namespace Go.Proofs.YtlnpefiipdkafaaGreatDoor
open Go.RowKit
theorem bsz (l:List UInt8):(⟨l.toArray⟩:ByteArray).size=l.length:=by simp [ByteArray.size]
theorem dec_len:∀(k n:Nat),1≤k→n<10 ^ k→(Lib.decDigits n).length≤k
 | 0,_,h,_=>absurd h (by omega)
 | k+1,n,_,hn=>by
  by_cases h:n<10
  ·rw [Lib.decDigits_one h];simp
  ·rw [dec_big h,List.length_append,List.length_singleton]
   rcases Nat.eq_zero_or_pos k with h0|h0
   ·subst h0;omega
   ·have:=dec_len k (n / 10) h0 (by rw [Nat.pow_succ] at hn;omega)
    omega
def decB (n:Nat):ByteArray:=⟨(Lib.decDigits n).toArray⟩
theorem decB_size {n:Nat} (h:n<10000000000000000):(decB n).size≤16∧1≤(decB n).size:=by
 unfold decB
 rw [bsz]
 refine ⟨dec_len 16 n (by omega) (by omega),?_⟩
 have:=dec_ne n
 cases h:Lib.decDigits n with
 | nil=>exact absurd h this
 | cons c l=>simp
theorem decB_big {n:Nat} (h:¬n<10):decB (n / 10)++(⟨#[48+UInt8.ofNat (n % 10)]⟩:ByteArray)=decB n:=by
 unfold decB
 rw [dec_big h]
 apply ByteArray.ext
 simp [ByteArray.data_append]
theorem decB_one {n:Nat} (h:n<10):(⟨#[48+UInt8.ofNat n]⟩:ByteArray)=decB n:=by
 unfold decB
 rw [Lib.decDigits_one h]
 simp
theorem cv_one (d:Nat) (h:d<10):∀(W:World) (g:Nat),W.cell? ⟨g,0,none⟩=some (.int .u8 (48+(d:Int)))→Sem.run Tryz.prog (convert 22 9 (.slice (some ⟨g,0,none⟩) 1 1)) W=.ok (.string ⟨#[UInt8.ofNat (48+d)]⟩) W:=fun W g hc =>
 run_convert_bytes_back W 22 9 5 ⟨g,0,none⟩ 1 [UInt8.ofNat (48+d)] Tryz.underlying22 Tryz.underlying5 Tryz.underlying9 (fun j hj=>by
  obtain rfl:j=0:=by simp at hj;omega
  simp only [List.getElem_cons_zero,Addr.add,Nat.zero_add]
  rw [ofNat_dig h]
  simpa using hc)
set_option maxHeartbeats 4000000 in
set_option maxRecDepth 10000 in
theorem num_any (n:Nat):n<10000000000000000→∀w:World,Calls Tryz.prog 104 #[.int .i64 (n:Int)] w fun e w'=>e=.returned (.string (decB n))∧Grows w w':=by
 induction n using Nat.strongRecOn with
 | _ n ih =>
  intro hn w
  have e1:¬((n:Int)<0):=by omega
  by_cases h:n<10
  ·have hcv:=cv_one n h (w.alloc (.cells #[.int .u8 (48+(n:Int))] 5)) w.heap.size (by simp)
   go_enter Tryz.func104,Tryz.ntmps104
   go_wp2
   go_ret
   exact ⟨by rw [←decB_one h];rfl,(Grows.refl w).alloc _⟩
  ·have q1:(n:Int).tdiv 10=((n / 10:Nat):Int):=by rw [Int.tdiv_eq_ediv_of_nonneg (by omega)];omega
   have q2:(n:Int).tmod 10=((n % 10:Nat):Int):=by rw [Int.tmod_eq_emod_of_nonneg (by omega)];omega
   have gg:Grows w w:=Grows.refl w
   go_enter Tryz.func104,Tryz.ntmps104
   go_wp2
   refine wp_region_held_drew (S:=(fun _=>True)) (by kernel_rfl) ?_ (fun hh0=>?_)
   ·(try dsimp only);try trivial
   refine regTk 0 hh0 ?_
   refine regTake 1 (v:=.int .i64 ((n / 10:Nat):Int)) (fun w hw=>?_) hh0 ?_
   ·(try dsimp only at hw)
    go_simp
    (try (first|rw [Go.IntWalk.i64_in _ (by omega)]|rw [Go.IntWalk.u8_in _ (by omega)]))
   try simp only [Act.put,List.setIfInBounds_toArray,List.set_cons_zero,List.set_cons_succ]
   refine regTk 3 hh0 ?_
   refine regTake 4 (v:=.int .i64 ((n % 10:Nat):Int)) (fun w hw=>?_) hh0 ?_
   ·(try dsimp only at hw)
    go_simp
    (try (first|rw [Go.IntWalk.i64_in _ (by omega)]|rw [Go.IntWalk.u8_in _ (by omega)]))
   try simp only [Act.put,List.setIfInBounds_toArray,List.set_cons_zero,List.set_cons_succ]
   refine regTake 5 (v:=.int .i64 (48+((n % 10:Nat):Int))) (fun w hw=>?_) hh0 ?_
   ·(try dsimp only at hw)
    go_simp
    (try (first|rw [Go.IntWalk.i64_in _ (by omega)]|rw [Go.IntWalk.u8_in _ (by omega)]))
   try simp only [Act.put,List.setIfInBounds_toArray,List.set_cons_zero,List.set_cons_succ]
   refine regTake 6 (v:=.int .u8 (48+((n % 10:Nat):Int))) (fun w hw=>?_) hh0 ?_
   ·(try dsimp only at hw)
    go_simp
    (try (first|rw [Go.IntWalk.i64_in _ (by omega)]|rw [Go.IntWalk.u8_in _ (by omega)]))
   try simp only [Act.put,List.setIfInBounds_toArray,List.set_cons_zero,List.set_cons_succ]
   refine regCall2 2 7 (fun K hK=>?_) (fun K hK=>?_)
   ·go_simp
    refine (ih (n / 10) (by omega) (by omega) _).mono ?_
    rintro e u1 ⟨rfl,g_⟩
    have gg:Grows w u1:=(show Grows w _ from (by repeat (first|exact Grows.refl _|exact gg|refine Grows.drew ?_|refine Grows.drewN ?_ _|refine Grows.alloc ?_ _))).trans g_
    have sz:=decB_size (show n / 10<10000000000000000 by omega)
    have szn:¬9223372036854775807<(decB (n / 10)).size+1:=by omega
    clear g_
    (try go_wp2_with fail)
    refine hK.out _ _ ?_ (fun hh1=>?_)
    ·(try dsimp only);try trivial
    clear hK K hh0
    try simp only [Act.put,List.setIfInBounds_toArray,List.set_cons_zero,List.set_cons_succ]
    refine regCall 7 (fun K hK=>?_)
    go_simp
    (try go_wp2_with fail)
    refine hK.out _ _ ?_ (fun hh2=>?_)
    ·(try dsimp only);try trivial
    clear hK K hh1
    try simp only [Act.put,List.setIfInBounds_toArray,List.set_cons_zero,List.set_cons_succ]
    refine regCall 8 (fun K hK=>?_)
    go_simp
    rw [cv_one (n % 10) (by omega) _ _ (by simp)]
    go_simp
    (try go_wp2_with fail)
    refine hK.out _ _ ?_ (fun hh3=>?_)
    ·(try dsimp only);try trivial
    clear hK K hh2
    try simp only [Act.put,List.setIfInBounds_toArray,List.set_cons_zero,List.set_cons_succ]
    refine regTk 9 hh3 ?_
    refine regTk 10 hh3 ?_
    refine wpAnyH_done (by kernel_rfl) ?_ _
    clear hh3
    go_wp2
    go_ret
    exact ⟨by rw [←decB_big h];rfl,(by repeat (first|exact Grows.refl _|exact gg|refine Grows.drew ?_|refine Grows.drewN ?_ _|refine Grows.alloc ?_ _))⟩
   ·go_simp
    (try go_wp2_with fail)
    refine hK.out _ _ ?_ (fun hh1=>?_)
    ·(try dsimp only);try trivial
    clear hK K hh0
    try simp only [Act.put,List.setIfInBounds_toArray,List.set_cons_zero,List.set_cons_succ]
    refine regCall2 2 8 (fun K hK=>?_) (fun K hK=>?_)
    ·go_simp
     refine (ih (n / 10) (by omega) (by omega) _).mono ?_
     rintro e u1 ⟨rfl,g_⟩
     have gg:Grows w u1:=(show Grows w _ from (by repeat (first|exact Grows.refl _|exact gg|refine Grows.drew ?_|refine Grows.drewN ?_ _|refine Grows.alloc ?_ _))).trans g_
     have sz:=decB_size (show n / 10<10000000000000000 by omega)
     have szn:¬9223372036854775807<(decB (n / 10)).size+1:=by omega
     have kc:u1.cell? ⟨w.heap.size,0,none⟩=some (.int .u8 (48+((n % 10:Nat):Int))):=(g_.cells.1 _ _ (by simp)).trans (by simp)
     clear g_
     (try go_wp2_with fail)
     refine hK.out _ _ ?_ (fun hh2=>?_)
     ·(try dsimp only);try trivial
     clear hK K hh1
     try simp only [Act.put,List.setIfInBounds_toArray,List.set_cons_zero,List.set_cons_succ]
     refine regCall 8 (fun K hK=>?_)
     go_simp
     rw [cv_one (n % 10) (by omega) _ _ kc]
     go_simp
     (try go_wp2_with fail)
     refine hK.out _ _ ?_ (fun hh3=>?_)
     ·(try dsimp only);try trivial
     clear hK K hh2
     try simp only [Act.put,List.setIfInBounds_toArray,List.set_cons_zero,List.set_cons_succ]
     refine regTk 9 hh3 ?_
     refine regTk 10 hh3 ?_
     refine wpAnyH_done (by kernel_rfl) ?_ _
     clear hh3
     go_wp2
     go_ret
     exact ⟨by rw [←decB_big h];rfl,(by repeat (first|exact Grows.refl _|exact gg|refine Grows.drew ?_|refine Grows.drewN ?_ _|refine Grows.alloc ?_ _))⟩
    ·go_simp
     rw [cv_one (n % 10) (by omega) _ _ (by simp)]
     go_simp
     (try go_wp2_with fail)
     refine hK.out _ _ ?_ (fun hh2=>?_)
     ·(try dsimp only);try trivial
     clear hK K hh1
     try simp only [Act.put,List.setIfInBounds_toArray,List.set_cons_zero,List.set_cons_succ]
     refine regCall 2 (fun K hK=>?_)
     go_simp
     refine (ih (n / 10) (by omega) (by omega) _).mono ?_
     rintro e u1 ⟨rfl,g_⟩
     have gg:Grows w u1:=(show Grows w _ from (by repeat (first|exact Grows.refl _|exact gg|refine Grows.drew ?_|refine Grows.drewN ?_ _|refine Grows.alloc ?_ _))).trans g_
     have sz:=decB_size (show n / 10<10000000000000000 by omega)
     have szn:¬9223372036854775807<(decB (n / 10)).size+1:=by omega
     have kc:u1.cell? ⟨w.heap.size,0,none⟩=some (.int .u8 (48+((n % 10:Nat):Int))):=(g_.cells.1 _ _ (by simp)).trans (by simp)
     clear g_
     (try go_wp2_with fail)
     refine hK.out _ _ ?_ (fun hh3=>?_)
     ·(try dsimp only);try trivial
     clear hK K hh2
     try simp only [Act.put,List.setIfInBounds_toArray,List.set_cons_zero,List.set_cons_succ]
     refine regTk 9 hh3 ?_
     refine regTk 10 hh3 ?_
     refine wpAnyH_done (by kernel_rfl) ?_ _
     clear hh3
     go_wp2
     go_ret
     exact ⟨by rw [←decB_big h];rfl,(by repeat (first|exact Grows.refl _|exact gg|refine Grows.drew ?_|refine Grows.drewN ?_ _|refine Grows.alloc ?_ _))⟩
end Go.Proofs.YtlnpefiipdkafaaGreatDoor
