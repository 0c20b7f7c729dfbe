/-
  A drawn cell is small.
-/
import Derived.Test.YtlnpefiipdkafaaGreatDoorHX
import Derived.Test.YtlnpefiipdkafaaGreatDoorHU
import Derived.Test.YtlnpefiipdkafaaGreatDoorHY
namespace Go.Proofs.YtlnpefiipdkafaaGreatDoor
open Go.RowKit
section
variable {w:World} {x:CellD}
theorem bndC.small (h:bndC x) (hp:∀p∈x.pins,p.name.size≤8) (ha:∀a∈x.arcs,a.delay.length=2∧a.slew.length≤2∧SmT a.delay∧SmT a.slew):SmCell x:=by
 obtain ⟨h1,h2,h3,h4⟩:=h
 have ht:∀t:TableD,bndT t→SmTable t:=fun t ⟨⟨_,b1⟩,⟨_,b2⟩,b3,_⟩=>by
  have:t.values.length≤9:=by rw [b3];exact Nat.mul_le_mul b1 b2
  unfold SmTable SmL;omega
 refine ⟨by omega,⟨by unfold SmL;omega,fun p hm=>by have:=hp p hm;unfold SmPin;omega⟩,⟨by unfold SmL;omega,fun a hm=>?_⟩,by unfold SmL;omega⟩
 obtain ⟨a1,a2,a3,a4⟩:=ha a hm
 exact ⟨⟨by unfold SmL;omega,fun t hq=>ht t (a3 t hq)⟩,⟨by unfold SmL;omega,fun t hq=>ht t (a4 t hq)⟩⟩
theorem ORow.allP {α:Type} {sz lo:Nat} {t:TypeId} {O:World→List Value→α→List Nat→Prop} {v:Value} {xs:List α} {bss:List (List Nat)} {p:α→Prop} (h:ORow sz t O lo w v xs bss) (hp:∀es y b,O w es y b→p y):∀y∈xs,p y:=by
 obtain ⟨cells,-,h2,-⟩:=h
 have h3:Els sz (fun w es x b=>O w es x b∧p x) w cells xs bss:=h2.mono (O':=fun w es x b=>O w es x b∧p x) fun es x b _ ho=>⟨ho,hp es x b ho⟩
 exact h3.all
end
end Go.Proofs.YtlnpefiipdkafaaGreatDoor
/-
  What the laws are given of a drawn library: readings that stay while blocks stay.
-/
namespace Go.Proofs.YtlnpefiipdkafaaGreatDoor
open Go.RowKit
def WCell (w:World) (es:List Value) (x:CellD) (b:List Nat):Prop:=SR b w (fun w=>RCell w es x)
theorem OCellB.weak {w w':World} {es:List Value} {x:CellD} {b:List Nat} (h:OCellB w es x b) (g:SameOn b w w'):WCell w' es x b:=fun _ g2=>by
 obtain ⟨_,h2,_⟩:=(h.keep (g.trans g2)).cell
 exact h2.reads
theorem WCell.list {w:World} {v:Value} {xs:List CellD} {b:List Nat} (h:OList 7 112 WCell w v xs b):SR b w (fun w=>RCells w v xs):=fun _ g=>OList.reads (OList.same h g fun _ _ _ h g=>SR.same h g) fun _ _ _ h=>SR.now h
theorem OCellB.sm {w:World} {es:List Value} {x:CellD} {bs:List Nat} (h:OCellB w es x bs):SmCell x:=by
 obtain ⟨vp,va,vt,pss,ass,rfl,hp,ha,ht,rfl,hb⟩:=h
 exact hb.small (hp.allP fun _ _ _ h=>h.2) (ha.allP fun _ _ _ h=>h.2)
/-- cells of an array written one behind the other -/
def putL (cs:Array Value) (o:Nat):List Value→Array Value
 | []=>cs
 | v::vs=>putL (cs.setIfInBounds o v) (o+1) vs
theorem putL_size:∀(vs:List Value) (cs:Array Value) (o:Nat),(putL cs o vs).size=cs.size
 | [],_,_=>rfl
 | v::vs,cs,o=>by rw [putL,putL_size vs];simp
theorem putL_out:∀(vs:List Value) (cs:Array Value) (o m:Nat),m<o∨o+vs.length≤m→(putL cs o vs)[m]?=cs[m]?
 | [],_,_,_,_=>rfl
 | v::vs,cs,o,m,h=>by
  rw [List.length_cons] at h
  rw [putL,putL_out vs _ _ _ (by omega),Array.getElem?_setIfInBounds_ne (by omega)]
theorem putL_in:∀(vs:List Value) (cs:Array Value) (o j:Nat) (u:Value),o+vs.length≤cs.size→vs[j]?=some u→(putL cs o vs)[o+j]?=some u
 | [],_,_,_,_,_,h=>by simp at h
 | v::vs,cs,o,0,u,h,hu=>by
  rw [List.length_cons] at h
  simp at hu
  subst hu
  rw [putL,putL_out vs _ _ _ (by omega),Nat.add_zero,Array.getElem?_setIfInBounds_self_of_lt (by omega)]
 | v::vs,cs,o,j+1,u,h,hu=>by
  rw [List.length_cons] at h
  rw [putL,show o+(j+1)=o+1+j by omega]
  exact putL_in vs _ _ _ _ (by simp;omega) (by simpa using hu)
def putW (w:World) (g o:Nat):List Value→World
 | []=>w
 | v::vs=>putW (w.setCell ⟨g,o,none⟩ v) g (o+1) vs
theorem putW_blk {g:Nat} {t:TypeId}:∀(vs:List Value) (w:World) (o:Nat) (cs:Array Value),Blk w g t cs→Blk (putW w g o vs) g t (putL cs o vs)
 | [],_,_,_,h=>h
 | v::vs,_,o,_,h=>putW_blk vs _ _ _ (h.set_ o v)
theorem putW_chg {g:Nat}:∀(vs:List Value) (w:World) (o:Nat),Chg [g] w (putW w g o vs)
 | [],_,_=>Chg.refl _ _
 | v::vs,w,o=>((Chg.refl _ _).setCell (by simp) v).trans (putW_chg vs _ _)
section
variable {w:World} {v:Value} {xs:List CellD} {bs:List Nat}
/-- one of a library's cells is laid anew -/
theorem lib_put {Q:Nat→Prop} {g n c k:Nat} {u w2:World} {es:List Value} {y:CellD} {by_:List Nat} (h:OList 7 112 OCellB u (.slice (some ⟨g,0,none⟩) n c) xs bs) (hn:OwnQ Q u.heap.size bs) (hk:k<xs.length) (hel:es.length=7) (hy:SR by_ u (fun w=>RCell w es y)) (hyb:∀q∈by_,Q q∧q<u.heap.size∧q≠g) (e2:w2=putW u g (k * 7) es) :
  ∃b2,SR b2 w2 (fun w=>RCells w (.slice (some ⟨g,0,none⟩) n c) (xs.set k y))∧∀q∈b2,Q q∧q<w2.heap.size:=by
 obtain ⟨x,hx⟩:∃x,xs[k]?=some x:=⟨_,List.getElem?_eq_getElem hk⟩
 obtain ⟨g',c',cs,ex,b',hv,hB,hgm,hgb,hbs,hbn,hexl,hex,hox,FIN⟩:=OList.turn (O':=WCell) h hn.1 hx
 injection hv with q1 q2 q3
 injection q1 with q1
 injection q1 with q1
 subst q1
 have hc:Chg [g] u w2:=by rw [e2];exact putW_chg _ _ _
 have hsz:k * 7+7≤cs.size:=by
  have:=(Array.getElem?_eq_some_iff.1 (hex 6 _ (List.getElem?_eq_getElem (by omega)))).1
  omega
 obtain ⟨b2,hL,hm⟩:=FIN w2 (putL cs (k * 7) es) es y by_ (by rw [e2];exact putW_blk _ _ _ _ hB) (fun m hm=>putL_out _ _ _ _ (by omega)) hel (fun j u hu=>putL_in _ _ _ _ _ (by omega) hu)
  (hy.same (hc.same (fun q hq=>(hyb q hq).2.1) (fun q hq hmm=>by simp at hmm;exact (hyb q hq).2.2 hmm)))
  (fun es z d hd hz=>hz.weak (hc.same (fun q hq=>(hn.2 q (hd q hq).1).2) (fun q hq hmm=>by simp at hmm;exact (hd q hq).2.2 hmm)))
 refine ⟨b2,WCell.list hL,fun q hq=>?_⟩
 rcases hm q hq with h9|h9
 ·exact ⟨(hn.2 q h9).1,Nat.lt_of_lt_of_le (hn.2 q h9).2 hc.size⟩
 ·exact ⟨(hyb q h9).1,Nat.lt_of_lt_of_le (hyb q h9).2.1 hc.size⟩
theorem lib_read (h:OList 7 112 OCellB w v xs bs):SR bs w (fun w=>RCells w v xs):=fun w' g=>OList.reads (OList.same h g fun _ _ _ h g=>h.keep g) fun _ _ _ h=>by
 obtain ⟨_,h2,_⟩:=h.cell
 exact h2.reads
theorem lib_small (h:OList 7 112 OCellB w v xs bs) (hl:xs.length≤8):SmCells xs:=by
 refine ⟨by unfold SmL;omega,fun x hx=>?_⟩
 obtain ⟨i,hi⟩:=List.getElem?_of_mem hx
 rcases h with ⟨_,rfl,_⟩|⟨g,c,cs,bss,hv,_,_,_,_,_,hc⟩
 ·cases hx
 ·obtain ⟨es,b,_,_,_,e4⟩:=hc i x hi
  exact e4.sm
end
theorem RList.cut {α:Type} {sz:Nat} {R:World→List Value→α→Prop} {w:World} {A:Option Addr} {n c m:Nat} {xs:List α} (h:RList sz R w (.slice A n c) xs) (hm:m≤xs.length):RList sz R w (.slice A m c) (xs.take m):=by
 obtain ⟨A',c',e,h1,h2,h3⟩:=h
 injection e with e1 e2 e3
 subst e1 e3
 refine ⟨_,_,by rw [List.length_take,Nat.min_eq_left hm],by rw [List.length_take];omega,h2,?_⟩
 rcases h3 with rfl|⟨b,off,hA,hc⟩
 ·exact .inl (by simp)
 ·refine .inr ⟨b,off,hA,fun i x hx=>?_⟩
  rw [List.getElem?_take] at hx
  split at hx
  ·exact hc i x hx
  ·cases hx
end Go.Proofs.YtlnpefiipdkafaaGreatDoor
/-
  A drawn library and a drawn design side by side: what is left when one part turns.
-/
namespace Go.Proofs.YtlnpefiipdkafaaGreatDoor
open Go.RowKit
def OPortsB:World→Value→List PortD→List Nat→Prop:=OList 3 74 OPortB
theorem OPortsB.same {w w':World} {v:Value} {ps:List PortD} {b:List Nat} (h:OPortsB w v ps b) (g:SameOn b w w'):OPortsB w' v ps b:=OList.same h g fun _ _ _ h _=>h
theorem OPortsB.reads {w:World} {v:Value} {ps:List PortD} {b:List Nat} (h:OPortsB w v ps b):RPorts w v ps:=OList.reads h fun _ _ _ h=>⟨h.1,by have:=h.2.1;unfold maxLen;omega⟩
theorem OPortsB.small {w:World} {v:Value} {ps:List PortD} {b:List Nat} (h:OPortsB w v ps b):∀p∈ps,p.name.size≤100:=fun p hp=>by
 obtain ⟨i,hi⟩:=List.getElem?_of_mem hp
 rcases h with ⟨_,rfl,_⟩|⟨g,c,cs,bss,hv,_,_,_,_,_,hc⟩
 ·cases hp
 ·obtain ⟨es,b,_,_,_,e4⟩:=hc i p hi
  exact e4.2.1
/-- the library lies in [lo, m1), the design's instances and nets in [m2, m3), its ports in [m3, m4) -/
def LD0 (lo m1 m2 m3 m4:Nat) (u:World) (vl:Value) (cs:List CellD) (vi:Value) (xs:List InstD) (vn:Value) (ns:List ByteArray) (vp:Value) (ps:List PortD):Prop :=
 ∃bl bp,OList 7 112 OCellB u vl cs bl∧Own lo m1 bl∧DF (fun q=>m2≤q∧q<m3) u vi xs vn ns∧OPortsB u vp ps bp∧Own m3 m4 bp∧m1≤m2∧m4≤u.heap.size∧lo≤m1∧m3≤m4
/-- readings that stay while the blocks from lo on (but for the boxes ex) stay -/
def LDW (lo:Nat) (ex:List Nat) (u:World) (vl:Value) (cs:List CellD) (vi:Value) (xs:List InstD) (vn:Value) (ns:List ByteArray) (vp:Value) (ps:List PortD):Prop :=
 (∃bs,SR bs u (fun w=>RCells w vl cs∧RInsts w vi xs∧RStrs w vn ns∧RPorts w vp ps)∧∀g∈bs,lo≤g∧g<u.heap.size∧g∉ex)∧SmCells cs∧SmDesign ⟨xs,ns,ps⟩
section
variable {lo m1 m2 m3 m4:Nat} {u u':World} {vl vi vn vp:Value} {cs:List CellD} {xs:List InstD} {ns:List ByteArray} {ps:List PortD}
theorem LD0.chg {ds:List Nat} (h:LD0 lo m1 m2 m3 m4 u vl cs vi xs vn ns vp ps) (c:Chg ds u u') (hd:∀g∈ds,g<lo∨(m1≤g∧g<m2)∨m4≤g) (hm:m2≤m3):LD0 lo m1 m2 m3 m4 u' vl cs vi xs vn ns vp ps:=by
 obtain ⟨bl,bp,h1,h2,h3,h4,h5,h6,h7,h8,h9⟩:=h
 refine ⟨bl,bp,OList.same h1 (c.same (fun q hq=>by have:=h2.2 q hq;omega) (fun q hq hmm=>by have:=h2.2 q hq;have:=hd q hmm;omega)) (fun _ _ _ h g=>h.keep g),h2,h3.next c (fun q hq h=>by have:=hd q hq;have:=h.1;have:=h.2;omega),h4.same (c.same (fun q hq=>by have:=h5.2 q hq;omega) (fun q hq hmm=>by have:=h5.2 q hq;have:=hd q hmm;omega)),h5,h6,Nat.le_trans h7 c.size,h8,h9⟩
theorem smDes (hx:xs.length≤100∧∀x∈xs,x.nets.length≤100∧x.name.size≤1000) (hn:ns.length≤100∧∀s∈ns,s.size≤1000) (hp:ps.length≤100∧∀p∈ps,p.name.size≤1000):SmDesign ⟨xs,ns,ps⟩:=by
 refine ⟨⟨by unfold SmL;dsimp only;omega,fun x h=>⟨by have:=(hx.2 x h).2;omega,by have:=(hx.2 x h).1;unfold SmL;omega⟩⟩,⟨by unfold SmL;dsimp only;omega,fun s h=>by have:=hn.2 s h;unfold SmStr;omega⟩,⟨by unfold SmL;dsimp only;omega,fun p h=>by have:=hp.2 p h;unfold SmPort;omega⟩⟩
/-- three parts, read apart, make one reading -/
theorem LDW.of {ex bl bd bp:List Nat} (h1:SR bl u (fun w=>RCells w vl cs)) (h2:SR bd u (fun w=>RInsts w vi xs∧RStrs w vn ns)) (h3:SR bp u (fun w=>RPorts w vp ps)) (hb:∀g,g∈bl∨g∈bd∨g∈bp→lo≤g∧g<u.heap.size∧g∉ex) (hc:SmCells cs) (hd:SmDesign ⟨xs,ns,ps⟩):LDW lo ex u vl cs vi xs vn ns vp ps:=by
 refine ⟨⟨bl++(bd++bp),fun w g=>?_,fun g hg=>hb g (by simpa using hg)⟩,hc,hd⟩
 have k1:=h1 w (g.sub fun q hq=>List.mem_append_left _ hq)
 have k2:=h2 w (g.sub fun q hq=>List.mem_append_right _ (List.mem_append_left _ hq))
 have k3:=h3 w (g.sub fun q hq=>List.mem_append_right _ (List.mem_append_right _ hq))
 exact ⟨k1,k2.1,k2.2,k3⟩
theorem LDW.next {ex ds:List Nat} (h:LDW lo ex u vl cs vi xs vn ns vp ps) (c:Chg ds u u') (hd:∀g∈ds,g<lo∨g∈ex):LDW lo ex u' vl cs vi xs vn ns vp ps:=by
 obtain ⟨⟨bs,h1,h2⟩,h3,h4⟩:=h
 have g1:SameOn bs u u':=c.same (fun q hq=>(h2 q hq).2.1) (fun q hq hm=>by
  rcases hd q hm with h|h
  ·have:=h2 q hq;omega
  ·exact (h2 q hq).2.2 h)
 exact ⟨⟨bs,h1.same g1,fun g hg=>⟨(h2 g hg).1,g1.size_lt hg (h2 g hg).2.1,(h2 g hg).2.2⟩⟩,h3,h4⟩
theorem DF.sr {Q:Nat→Prop} (h:DF Q u vi xs vn ns):∃bd,SR bd u (fun w=>RInsts w vi xs∧RStrs w vn ns)∧∀g∈bd,Q g∧g<u.heap.size:=by
 obtain ⟨bi,h1,h2,h3⟩:=h
 refine ⟨vn.ownBlock.toList++bi,fun w g=>?_,h3.2⟩
 have k:DF (fun _=>True) w vi xs vn ns:=by
  refine ⟨bi,OList.same h1 (g.sub fun q hq=>List.mem_append_right _ hq) (fun _ _ _ h g=>h.same g),RW.keep h2 (g.sub fun q hq=>List.mem_append_left _ (by simpa using hq)) (fun _ _ _ h _=>h),h3.1,fun q hq=>⟨trivial,g.size_lt hq (h3.2 q hq).2⟩⟩
 exact k.reads
theorem LD0.weak {ex:List Nat} (h:LD0 lo m1 m2 m3 m4 u vl cs vi xs vn ns vp ps) (hl:lo≤m2∧m2≤m3) (hc:cs.length≤8) (hx:xs.length≤10) (hn:ns.length≤20) (hp:ps.length≤10) (he:∀g∈ex,g<lo∨(m1≤g∧g<m2)∨m4≤g):LDW lo ex u vl cs vi xs vn ns vp ps:=by
 obtain ⟨bl,bp,h1,h2,h3,h4,h5,h6,h7,h8,h9⟩:=h
 obtain ⟨bd,hd,hdb⟩:=h3.sr
 refine LDW.of (lib_read h1) hd (fun w g=>(h4.same g).reads) (fun g hg=>?_) (lib_small h1 hc) (smDes ⟨by omega,fun x hx=>by have:=h3.small.1 x hx;omega⟩ ⟨by omega,fun s hs=>by have:=h3.small.2 s hs;omega⟩ ⟨by omega,fun p hp=>by have:=h4.small p hp;omega⟩)
 rcases hg with hg|hg|hg
 ·have:=h2.2 g hg
  exact ⟨by omega,by omega,fun hm=>by have:=he g hm;omega⟩
 ·have h9':=hdb g hg
  have:=h9'.1.1
  have:=h9'.1.2
  exact ⟨by omega,h9'.2,fun hm=>by have:=he g hm;omega⟩
 ·have:=h5.2 g hg
  exact ⟨by omega,by omega,fun hm=>by have:=he g hm;omega⟩
theorem LD0.inst {i:Nat} (h:LD0 lo m1 m2 m3 m4 u vl cs vi xs vn ns vp ps) (hi:i<xs.length):∃(gi ci gn cn:Nat) (x:InstD) (n0:Int),vi=.slice (some ⟨gi,0,none⟩) xs.length ci∧xs[i]?=some x∧((m2≤gi∧gi<m3)∧gi<u.heap.size∧∀o,u.frozen? ⟨gi,o,none⟩=false)∧((m2≤gn∧gn<m3)∧gn<u.heap.size∧∀o,u.frozen? ⟨gn,o,none⟩=false)∧gi≠gn∧1≤x.nets.length∧x.name.size≤100 ∧
  (u.cell? ⟨gi,i * 3,none⟩=some (.string x.name)∧u.cell? ⟨gi,i * 3+1,none⟩=some (.int .i64 x.cell)∧u.cell? ⟨gi,i * 3+2,none⟩=some (.slice (some ⟨gn,0,none⟩) x.nets.length cn)∧u.cell? ⟨gn,0,none⟩=some (.int .i64 n0)) ∧
  (∀(z:Int),LD0 lo m1 m2 m3 m4 (u.setCell ⟨gn,0,none⟩ (.int .i64 z)) vl cs vi (xs.set i { x with nets:=x.nets.set 0 z }) vn ns vp ps) ∧
  ∀(j:Nat) (v:Value) (y:InstD),j<2→(∀d:Value,[Value.string x.name,.int .i64 x.cell,d].set j v=[.string y.name,.int .i64 y.cell,d])→y.nets=x.nets→y.name.size≤100→LD0 lo m1 m2 m3 m4 (u.setCell ⟨gi,i * 3+j,none⟩ v) vl cs vi (xs.set i y) vn ns vp ps:=by
 obtain ⟨bl,bp,h1,h2,h3,h4,h5,h6,h7,h8,h9⟩:=h
 obtain ⟨gi,ci,gn,cn,x,n0,e,hx,⟨qi,li,fi⟩,⟨qn,ln,fn⟩,hne,hn1,hc,S1,S2⟩:=h3.inst hi
 have key:∀(q j:Nat) (v:Value) (ys:List InstD),m2≤q∧q<m3→DF (fun q=>m2≤q∧q<m3) (u.setCell ⟨q,j,none⟩ v) vi ys vn ns→LD0 lo m1 m2 m3 m4 (u.setCell ⟨q,j,none⟩ v) vl cs vi ys vn ns vp ps:=fun q j v ys hq hd=>by
  have c:Chg [q] u (u.setCell ⟨q,j,none⟩ v):=(Chg.refl _ _).setCell (by simp) _
  exact ⟨bl,bp,OList.same h1 (c.same (fun r hr=>by have:=h2.2 r hr;omega) (fun r hr hm=>by have:=h2.2 r hr;simp at hm;omega)) (fun _ _ _ h g=>h.keep g),h2,hd,h4.same (c.same (fun r hr=>by have:=h5.2 r hr;omega) (fun r hr hm=>by have:=h5.2 r hr;simp at hm;omega)),h5,h6,Nat.le_trans h7 c.size,h8,h9⟩
 exact ⟨gi,ci,gn,cn,x,n0,e,hx,⟨qi,li,fi⟩,⟨qn,ln,fn⟩,hne,hn1,(h3.small.1 x (List.mem_of_getElem? hx)).2,hc,fun z=>key _ _ _ _ qn (S1 z),fun j v y hj hy hyn hyz=>key _ _ _ _ qi (S2 j v y hj hy hyn hyz)⟩
theorem LD0.port {i:Nat} (h:LD0 lo m1 m2 m3 m4 u vl cs vi xs vn ns vp ps) (hi:i<ps.length) (hl:m2≤m3):∃(gp cp:Nat) (p:PortD),vp=.slice (some ⟨gp,0,none⟩) ps.length cp∧ps[i]?=some p∧((m3≤gp∧gp<m4)∧gp<u.heap.size∧∀o,u.frozen? ⟨gp,o,none⟩=false) ∧
  (u.cell? ⟨gp,i * 3,none⟩=some (.string p.name)∧u.cell? ⟨gp,i * 3+1,none⟩=some (.int .i64 p.dir)∧u.cell? ⟨gp,i * 3+2,none⟩=some (.int .i64 p.net)) ∧
  ∀(j:Nat) (v:Value) (y:PortD),j<3→[Value.string p.name,.int .i64 p.dir,.int .i64 p.net].set j v=[.string y.name,.int .i64 y.dir,.int .i64 y.net]→y.name=p.name→LD0 lo m1 m2 m3 m4 (u.setCell ⟨gp,i * 3+j,none⟩ v) vl cs vi xs vn ns vp (ps.set i y):=by
 obtain ⟨bl,bp,h1,h2,h3,h4,h5,h6,h7,h8,h9⟩:=h
 obtain ⟨p,hp⟩:∃p,ps[i]?=some p:=⟨_,List.getElem?_eq_getElem hi⟩
 obtain ⟨gp,cp,rfl,hg,_,_,hgl,hgf,-⟩:=OList.rowAt h4 (by omega)
 obtain ⟨es,b,e1,e2,e3,-⟩:=OList.cellAt h4 hp
 obtain ⟨rfl,hz,rfl⟩:=e3
 have hgo:=h5.2 gp hg
 refine ⟨gp,cp,p,rfl,hp,⟨hgo,hgl,hgf⟩,⟨by simpa using e2 0 _ rfl,e2 1 _ rfl,e2 2 _ rfl⟩,fun j v y hj hy hyn=>?_⟩
 have c:Chg [gp] u (u.setCell ⟨gp,i * 3+j,none⟩ v):=(Chg.refl _ _).setCell (by simp) _
 have k:=OList.put (i:=i) (j:=j) (u:=v) (x':=y) h4 h5.1 hj hp (fun es b hh=>by
  obtain ⟨rfl,hz2,rfl⟩:=hh
  exact ⟨hy,by rw [hyn];exact hz2,rfl⟩) (fun _ _ _ h _=>h)
 exact ⟨bl,bp,OList.same h1 (c.same (fun r hr=>by have:=h2.2 r hr;omega) (fun r hr hm=>by have:=h2.2 r hr;simp at hm;omega)) (fun _ _ _ h g=>h.keep g),h2,h3.next c (fun q hq h=>by simp at hq;have:=h.1;have:=h.2;omega),k,h5,h6,Nat.le_trans h7 c.size,h8,h9⟩
end
theorem els_strs {w:World}:∀{ns:List ByteArray} {cells:List Value} {bss:List (List Nat)},Els 1 OStrB w cells ns bss→cells=ns.map Value.string∧∀s∈ns,s.size≤100
 | [],_,_,⟨h,_⟩=>⟨by subst h;rfl,fun _ h=>nomatch h⟩
 | s::ns,_,_,⟨es,rest,b,bss',h1,_,h3,_,h5⟩=>by
  obtain ⟨rfl,hz,-⟩:=h3
  obtain ⟨e,hs⟩:=els_strs h5
  subst h1 e
  refine ⟨rfl,fun q hq=>?_⟩
  rcases List.mem_cons.1 hq with rfl|hq
  ·exact hz
  ·exact hs q hq
theorem row_set {w:World} {base g c n:Nat} {t:TypeId} {xs:List Value} (h:w.ownsRow base t 1 (.slice (some ⟨g,0,none⟩) n c) n xs) (i:Nat) (v:Value):(w.setCell ⟨g,i,none⟩ v).ownsRow base t 1 (.slice (some ⟨g,0,none⟩) n c) n (xs.set i v):=by
 obtain ⟨hl,⟨e,_⟩|⟨g',c',cur,e,hb,hg,h1,h2,h3,h4⟩⟩:=h
 ·cases e
 ·injection e with e1 e2 e3
  injection e1 with e1
  injection e1 with e1
  subst e1 e3
  have hB:Blk w g t cur:=hg
  refine ⟨by rw [List.length_set];exact hl,.inr ⟨g,c,cur.setIfInBounds i v,rfl,hb,hB.set_ i v,h1,h2,by simpa using h3,?_⟩⟩
  rw [Array.toList_setIfInBounds,List.take_set,h4]
theorem RStrW.row {w:World} {v:Value} {ns:List ByteArray} {r:List Nat} (h:RStrW w v ns r):w.ownsRow 0 9 1 v ns.length (ns.map Value.string)∧∀s∈ns,s.size≤100:=by
 obtain ⟨bss,⟨cells,h1,h2,_⟩,_⟩:=h
 obtain ⟨e,hz⟩:=els_strs h2
 subst e
 exact ⟨h1,hz⟩
end Go.Proofs.YtlnpefiipdkafaaGreatDoor
