/-
  What a valid library and a valid design are, and a design's places, in plain Lean.
-/
import Derived.Test.YtlnpefiipdkafaaGreatDoorGI
import Derived.Test.YtlnpefiipdkafaaGreatDoorGG
import Derived.Laws.AppendOwn
import Derived.Test.YtlnpefiipdkafaaGreatDoorGB
import Derived.Test.YtlnpefiipdkafaaGreatDoorGJ
import Derived.Test.YtlnpefiipdkafaaGreatDoorGA
namespace Go.Proofs.YtlnpefiipdkafaaGreatDoor
open Go.RowKit

theorem ownsRow_grows {w w':World} {base:Nat} {e:TypeId} {size:Nat} {v:Value} {n:Nat} {xs:List Value} (h:w.ownsRow base e size v n xs) (g:Grows w w'):w'.ownsRow base e size v n xs:=by
 obtain ⟨hl,⟨rfl,h0⟩|⟨q,c,cur,rfl,hb,hq,h1,h2,h3,h4⟩⟩:=h
 ·exact ⟨hl,.inl ⟨rfl,h0⟩⟩
 ·exact ⟨hl,.inr ⟨q,c,cur,rfl,hb,(Blk.grows (show Blk w q e cur from hq) g),h1,h2,h3,h4⟩⟩
def LibP (cs:List CellD):Prop:=(∀(i:Nat) (x:CellD),cs[i]?=some x→CellP x)∧(∀(i j:Nat) (x y:CellD),i<j→cs[i]?=some x→cs[j]?=some y→¬x.name=y.name)∧cs.length≤8
noncomputable def libB (cs:List CellD):Bool:=pB (LibP cs)
theorem lib_names {cs:List CellD} (h:∀(i:Nat) (x:CellD),cs[i]?=some x→CellP x):(pB (NamesP (cs.map (·.name)))&&decide (cs.length≤8))=libB cs:=by
 unfold libB
 rw [Bool.eq_iff_iff,Bool.and_eq_true,pB_iff,pB_iff,decide_eq_true_eq]
 constructor
 ·rintro ⟨⟨-,h2⟩,hl⟩
  refine ⟨h,fun i j x y hij hx hy=>h2 i j _ _ hij ?_ ?_,hl⟩
  ·rw [List.getElem?_map,hx];rfl
  ·rw [List.getElem?_map,hy];rfl
 ·rintro ⟨-,h2,hl⟩
  refine ⟨⟨fun i s hs=>?_,fun i j s u hij hs hu=>?_⟩,hl⟩
  ·rw [List.getElem?_map] at hs
   obtain ⟨x,hx,rfl⟩:=Option.map_eq_some_iff.1 hs
   exact (h i x hx).name
  ·rw [List.getElem?_map] at hs hu
   obtain ⟨x,hx,rfl⟩:=Option.map_eq_some_iff.1 hs
   obtain ⟨y,hy,rfl⟩:=Option.map_eq_some_iff.1 hu
   exact h2 i j x y hij hx hy
def cellI (s:ByteArray) (cs:List CellD):Int:=idxF (fun c=>decide (c.name=s)) cs

def netIn (d:DesignD) (n:Int):Bool:=inB n 0 ((d.nets.length:Int) - 1)
structure InstOk (l:List CellD) (d:DesignD) (x:InstD):Prop where
 cell:inB x.cell 0 ((l.length:Int) - 1)=true
 pins:∀c,l[x.cell.toNat]?=some c→x.nets.length=c.pins.length
 nets:x.nets.all (netIn d)=true
structure PortOk (d:DesignD) (p:PortD):Prop where
 dir:inB p.dir 1 2=true
 net:netIn d p.net=true
def lastNet (x:InstD):Int:=x.nets.getD (x.nets.length - 1) 0
theorem lastNet_of {x:InstD} {v:Int} (h:x.nets[x.nets.length - 1]?=some v):lastNet x=v:=by
 unfold lastNet;rw [List.getD_eq_getElem?_getD,h];rfl
/-- how many of some instances drive net j; how many of some ports -/
def cntI (xs:List InstD) (j:Nat):Nat:=(xs.filter fun x=>lastNet x==(j:Int)).length
def cntP (ps:List PortD) (j:Nat):Nat:=(ps.filter fun p=>p.dir==1&&p.net==(j:Int)).length
theorem cntI_succ {xs:List InstD} {k:Nat} {x:InstD} (h:xs[k]?=some x) (j:Nat):cntI (xs.take (k+1)) j=cntI (xs.take k) j+(if lastNet x=(j:Int) then 1 else 0):=by
 unfold cntI
 rw [List.take_add_one,h,List.filter_append,List.length_append]
 by_cases e:lastNet x=(j:Int)<;>simp [e]
theorem cntP_succ {ps:List PortD} {k:Nat} {p:PortD} (h:ps[k]?=some p) (j:Nat):cntP (ps.take (k+1)) j=cntP (ps.take k) j+(if p.dir=1∧p.net=(j:Int) then 1 else 0):=by
 unfold cntP
 rw [List.take_add_one,h,List.filter_append,List.length_append]
 by_cases e:p.dir=1<;>by_cases f:p.net=(j:Int)<;>simp [e,f]
theorem cntI_le (xs:List InstD) (j:Nat):cntI xs j≤xs.length:=List.length_filter_le _ _
theorem cntP_le (ps:List PortD) (j:Nat):cntP ps j≤ps.length:=List.length_filter_le _ _
structure DesP (l:List CellD) (d:DesignD):Prop where
 lib:LibP l
 ni:d.insts.length≤14
 nn:d.nets.length≤30
 np:d.ports.length≤8
 inst:∀(i:Nat) (x:InstD),d.insts[i]?=some x→InstOk l d x
 port:∀(i:Nat) (p:PortD),d.ports[i]?=some p→PortOk d p
 iname:NamesP (d.insts.map (·.name))
 nname:NamesP d.nets
 pname:NamesP (d.ports.map (·.name))
 drv:∀j:Nat,j<d.nets.length→cntI d.insts j+cntP d.ports j=1
noncomputable def desB (l:List CellD) (d:DesignD):Bool:=pB (DesP l d)
/-- a valid instance has nets -/
theorem DesP.last {l:List CellD} {d:DesignD} (hl:LibP l) {x:InstD} (h:InstOk l d x):2≤x.nets.length∧x.nets.length≤5:=by
 have hc:=inB_true h.cell
 obtain ⟨c,hcc⟩:∃c,l[x.cell.toNat]?=some c:=⟨_,List.getElem?_eq_getElem (by omega)⟩
 have:=h.pins c hcc
 have hp:=(hl.1 _ _ hcc).pins.1
 omega

structure PlaceD where
 inst:Int
 pin:Int
 net:Int
 drives:Bool
def RPlace (_:World) (cs:List Value) (p:PlaceD):Prop:=cs=[.int .i64 p.inst,.int .i64 p.pin,.int .i64 p.net,.bool p.drives]
def RPlaces:World→Value→List PlaceD→Prop:=RList 4 RPlace
theorem RPlaces.keep {w w':World} {v:Value} {xs:List PlaceD} (h:RPlaces w v xs) (k:Keeps w w'):RPlaces w' v xs:=RList.keep h k fun _ _ h=>h
/-- the places of an instance's first q pins -/
def plI (i:Nat) (x:InstD) (q:Nat):List PlaceD:=(List.range q).map fun (k:Nat)=>⟨(i:Int),(k:Int),x.nets.getD k 0,decide (k+1=x.nets.length)⟩
def plIs (xs:List InstD) (k:Nat):List PlaceD:=(List.range k).flatMap fun (i:Nat)=>match xs[i]? with|some x=>plI i x x.nets.length|none=>[]
def plPs (ps:List PortD) (k:Nat):List PlaceD:=(List.range k).flatMap fun (i:Nat)=>match ps[i]? with|some p=>[⟨-1,(i:Int),p.net,p.dir==1⟩]|none=>[]
def placesL (d:DesignD):List PlaceD:=plIs d.insts d.insts.length++plPs d.ports d.ports.length
theorem plI_succ {i:Nat} {x:InstD} {q:Nat} {v:Int} (h:x.nets[q]?=some v):plI i x (q+1)=plI i x q++[⟨(i:Int),(q:Int),v,decide (q+1=x.nets.length)⟩]:=by
 unfold plI
 rw [List.range_succ,List.map_append,List.map_singleton,List.getD_eq_getElem?_getD,h];rfl
theorem plIs_succ {xs:List InstD} {k:Nat} {x:InstD} (h:xs[k]?=some x):plIs xs (k+1)=plIs xs k++plI k x x.nets.length:=by
 unfold plIs
 rw [List.range_succ,List.flatMap_append,List.flatMap_singleton,h]
theorem plPs_succ {ps:List PortD} {k:Nat} {p:PortD} (h:ps[k]?=some p):plPs ps (k+1)=plPs ps k++[⟨-1,(k:Int),p.net,p.dir==1⟩]:=by
 unfold plPs
 rw [List.range_succ,List.flatMap_append,List.flatMap_singleton,h]
theorem plI_len (i:Nat) (x:InstD) (q:Nat):(plI i x q).length=q:=by unfold plI;simp
theorem plIs_len {l:List CellD} {d:DesignD} (h:DesP l d):∀{k:Nat},k≤d.insts.length→(plIs d.insts k).length≤5 * k
 | 0,_=>by simp [plIs]
 | k+1,hk=>by
  obtain ⟨x,hx⟩:∃x,d.insts[k]?=some x:=⟨_,List.getElem?_eq_getElem (by omega)⟩
  rw [plIs_succ hx,List.length_append,plI_len]
  have:=plIs_len h (k:=k) (by omega)
  have:=(DesP.last h.lib (h.inst k x hx)).2
  omega
theorem plPs_len {d:DesignD}:∀{k:Nat},k≤d.ports.length→(plPs d.ports k).length=k
 | 0,_=>by simp [plPs]
 | k+1,hk=>by
  obtain ⟨x,hx⟩:∃x,d.ports[k]?=some x:=⟨_,List.getElem?_eq_getElem (by omega)⟩
  rw [plPs_succ hx,List.length_append,plPs_len (k:=k) (by omega)];rfl
theorem places_len {l:List CellD} {d:DesignD} (h:DesP l d):(placesL d).length≤78:=by
 unfold placesL
 rw [List.length_append,plPs_len (Nat.le_refl _)]
 have:=plIs_len h (Nat.le_refl d.insts.length)
 have:=h.ni
 have:=h.np
 omega
/-- every place of a valid design lies at a net, at a pin of an instance or at a port -/
structure PlaceOk (l:List CellD) (d:DesignD) (p:PlaceD):Prop where
 net:netIn d p.net=true
 at_:(∃(i k:Nat) (x:InstD) (c:CellD) (q:PinD),p.inst=(i:Int)∧p.pin=(k:Int)∧d.insts[i]?=some x∧0≤x.cell∧l[x.cell.toNat]?=some c∧c.pins[k]?=some q)∨(p.inst=-1∧∃(k:Nat) (o:PortD),p.pin=(k:Int)∧d.ports[k]?=some o)
theorem place_ok {l:List CellD} {d:DesignD} (h:DesP l d) {p:PlaceD} (hp:p∈placesL d):PlaceOk l d p:=by
 unfold placesL at hp
 rcases List.mem_append.1 hp with hp|hp
 ·unfold plIs at hp
  obtain ⟨i,hi,hp⟩:=List.mem_flatMap.1 hp
  obtain ⟨x,hx⟩:∃x,d.insts[i]?=some x:=⟨_,List.getElem?_eq_getElem (List.mem_range.1 hi)⟩
  rw [hx] at hp
  simp only at hp
  unfold plI at hp
  obtain ⟨k,hk,rfl⟩:=List.mem_map.1 hp
  have hk:=List.mem_range.1 hk
  have ho:=h.inst i x hx
  have hc:=inB_true ho.cell
  obtain ⟨c,hcc⟩:∃c,l[x.cell.toNat]?=some c:=⟨_,List.getElem?_eq_getElem (by omega)⟩
  have hpl:=ho.pins c hcc
  obtain ⟨q,hq⟩:∃q,c.pins[k]?=some q:=⟨_,List.getElem?_eq_getElem (by omega)⟩
  refine ⟨?_,.inl ⟨i,k,x,c,q,rfl,rfl,hx,hc.1,hcc,hq⟩⟩
  show netIn d (x.nets.getD k 0)=true
  rw [List.getD_eq_getElem?_getD,List.getElem?_eq_getElem hk]
  exact List.all_eq_true.1 ho.nets _ (List.getElem_mem hk)
 ·unfold plPs at hp
  obtain ⟨i,hi,hp⟩:=List.mem_flatMap.1 hp
  obtain ⟨x,hx⟩:∃x,d.ports[i]?=some x:=⟨_,List.getElem?_eq_getElem (List.mem_range.1 hi)⟩
  rw [hx] at hp
  simp only [List.mem_singleton] at hp
  subst hp
  exact ⟨(h.port i x hx).net,.inr ⟨rfl,i,x,rfl,hx⟩⟩
end Go.Proofs.YtlnpefiipdkafaaGreatDoor
/-
  An own row that was appended to, read as a list of elements of several cells.
-/
namespace Go.Proofs.YtlnpefiipdkafaaGreatDoor
open Go.RowKit
theorem flat_at {α β:Type} {f:α→List β} {sz:Nat} (hf:∀x,(f x).length=sz):∀{xs:List α} {i j:Nat} {x:α} {u:β},xs[i]?=some x→(f x)[j]?=some u→(xs.flatMap f)[i * sz+j]?=some u
 | [],i,j,x,u,h,_=>by simp at h
 | y::ys,0,j,x,u,h,hu=>by
  simp at h
  subst h
  have hj:j<(f y).length:=(List.getElem?_eq_some_iff.1 hu).1
  rw [List.flatMap_cons,Nat.zero_mul,Nat.zero_add,List.getElem?_append_left hj]
  exact hu
 | y::ys,i+1,j,x,u,h,hu=>by
  have h':ys[i]?=some x:=by simpa using h
  have e:(i+1) * sz+j=(f y).length+(i * sz+j):=by rw [hf,Nat.add_mul];omega
  rw [List.flatMap_cons,e,List.getElem?_append_right (by omega),Nat.add_sub_cancel_left]
  exact flat_at hf h' hu
theorem own_list {α:Type} {sz:Nat} {R:World→List Value→α→Prop} {f:α→List Value} (hf:∀x,(f x).length=sz) {w:World} {base:Nat} {E:TypeId} {v:Value} {xs:List α} {n:Nat} (hR:∀x∈xs,R w (f x) x) (hn:n=xs.length) (h:w.ownsRow base E sz v n (xs.flatMap f)):RList sz R w v xs:=by
 subst hn
 obtain ⟨hl,⟨rfl,h0⟩|⟨g,c,cur,rfl,hb',hg,h1,h2,h3,h4⟩⟩:=h
 ·have hx:xs=[]:=List.eq_nil_of_length_eq_zero h0
  subst hx
  exact ⟨none,0,rfl,Nat.le_refl _,Nat.zero_le _,.inl rfl⟩
 ·have hB:Blk w g E cur:=hg
  refine ⟨_,c,rfl,h1,h2,.inr ⟨g,0,rfl,fun i x hx=>⟨f x,hf x,fun j u hu=>?_,hR x (List.mem_of_getElem? hx)⟩⟩⟩
  have hi:i<xs.length:=(List.getElem?_eq_some_iff.1 hx).1
  have hj:j<sz:=by have:=(List.getElem?_eq_some_iff.1 hu).1;rw [hf] at this;exact this
  have h5:(cur.toList.take (xs.length * sz))[i * sz+j]?=some u:=by rw [h4];exact flat_at hf hx hu
  have hlt:i * sz+j<xs.length * sz:=by
   have:(i+1) * sz≤xs.length * sz:=Nat.mul_le_mul_right _ hi
   rw [Nat.add_mul] at this
   omega
  rw [List.getElem?_take_of_lt hlt] at h5
  rw [Nat.zero_add,hB.cell,←Array.getElem?_toList]
  exact h5
def plC (p:PlaceD):List Value:=[.int .i64 p.inst,.int .i64 p.pin,.int .i64 p.net,.bool p.drives]
theorem own_splaces {w:World} {base:Nat} {v:Value} {ps:List PlaceD} {n:Nat} (hn:n=ps.length) (h:w.ownsRow base 98 4 v n (ps.flatMap plC)):RPlaces w v ps :=
 own_list (f:=plC) (fun _=>rfl) (fun _ _=>rfl) hn h
theorem info_spl:(Tryz.prog.info? 98).map (fun i=>(i.zero,i.size,i.bytes))=some (some (.agg #[.int .i64 0,.int .i64 0,.int .i64 0,.bool false]),4,32):=by kernel_rfl
theorem own_iplaces {w:World} {base:Nat} {v:Value} {ps:List PlaceD} {n:Nat} (hn:n=ps.length) (h:w.ownsRow base 67 4 v n (ps.flatMap plC)):RPlaces w v ps :=
 own_list (f:=plC) (fun _=>rfl) (fun _ _=>rfl) hn h
theorem info_ipl:(Tryz.prog.info? 67).map (fun i=>(i.zero,i.size,i.bytes))=some (some (.agg #[.int .i64 0,.int .i64 0,.int .i64 0,.bool false]),4,32):=by kernel_rfl
end Go.Proofs.YtlnpefiipdkafaaGreatDoor
/-
  Contract of the reference's test of the parts of a design.
-/
namespace Go.Proofs.YtlnpefiipdkafaaGreatDoor
open Go.RowKit
def PartsP (cs:List CellD) (d:DesignD):Prop:=(∀(i:Nat) (x:InstD),d.insts[i]?=some x→InstOk cs d x)∧∀(i:Nat) (p:PortD),d.ports[i]?=some p→PortOk d p
theorem l01In_g (n lo hi:Int) (w:World):Calls Tryz.prog 73 #[.int .i64 n,.int .i64 lo,.int .i64 hi] w fun e w'=>e=.returned (.bool (inB n lo hi))∧Grows w w' :=
 (l01In_any n lo hi w).mono fun _ _ ⟨he,hw⟩=>⟨he,by rw [←hw];exact Grows.refl _⟩
/-- a list of integers as the walk meets it -/
theorem ints_at {w:World} {A:Option Addr} {n:Nat} {xs:List Int} (h:RInts w (.slice A xs.length n) xs) {i:Nat} {v:Int} (hi:xs[i]?=some v):∃b off:Nat,A=some ⟨b,off,none⟩∧w.cell? ⟨b,off+i,none⟩=some (.int .i64 v):=by
 obtain ⟨A',n',e,-,-,hx⟩:=RList.form h
 injection e with e1 e2
 subst e1
 obtain ⟨b,off,rfl,ds,hl1,hcs,hr⟩:=hx i v hi
 unfold RI at hr
 subst hr
 exact ⟨b,off,rfl,by simpa using hcs 0 _ rfl⟩
/-- the pins of a cell of a library as the walk meets them -/
theorem pins_at {w:World} {A:Option Addr} {n:Nat} {cs:List CellD} (h:RCells w (.slice A cs.length n) cs) {i:Nat} {c:CellD} (hi:cs[i]?=some c):∃(b off:Nat) (B:Option Addr) (m:Nat),A=some ⟨b,off,none⟩∧w.cell? ⟨b,off+i * 7+2,none⟩=some (.slice B c.pins.length m)∧RPins w (.slice B c.pins.length m) c.pins:=by
 obtain ⟨A',n',e,-,-,hx⟩:=RList.form h
 injection e with e1 e2
 subst e1
 obtain ⟨b,off,rfl,ds,hl1,hcs,hr⟩:=hx i c hi
 obtain ⟨d0,d1,d2,d3,d4,d5,d6,rfl⟩:=list7 hl1
 obtain ⟨rfl,rfl,h2,-⟩:=hr.parts
 obtain ⟨B,m,rfl⟩:∃(D:Option Addr) (nd:Nat),d2=.slice D c.pins.length nd:=by obtain ⟨D,c,e,-⟩:=RList.form h2;exact ⟨D,c,e⟩
 exact ⟨b,off,B,m,rfl,by simpa [Nat.add_assoc] using hcs 2 _ rfl,h2⟩
/-- an instance of a design as the walk meets it -/
theorem inst_at {w:World} {A:Option Addr} {n:Nat} {xs:List InstD} (h:RInsts w (.slice A xs.length n) xs) {i:Nat} {x:InstD} (hi:xs[i]?=some x):∃(b off:Nat) (B:Option Addr) (m:Nat),A=some ⟨b,off,none⟩∧w.cell? ⟨b,off+i * 3,none⟩=some (.string x.name)∧w.cell? ⟨b,off+i * 3+1,none⟩=some (.int .i64 x.cell)∧w.cell? ⟨b,off+i * 3+2,none⟩=some (.slice B x.nets.length m)∧RInts w (.slice B x.nets.length m) x.nets∧x.name.size≤maxLen:=by
 obtain ⟨A',n',e,-,-,hx⟩:=RList.form h
 injection e with e1 e2
 subst e1
 obtain ⟨b,off,rfl,ds,hl1,hcs,hr⟩:=hx i x hi
 obtain ⟨d0,d1,d2,rfl⟩:=list3 hl1
 obtain ⟨rfl,rfl,h2,hz⟩:=hr.parts
 obtain ⟨B,m,rfl⟩:∃(D:Option Addr) (nd:Nat),d2=.slice D x.nets.length nd:=by obtain ⟨D,c,e,-⟩:=RList.form h2;exact ⟨D,c,e⟩
 exact ⟨b,off,B,m,rfl,by simpa using hcs 0 _ rfl,by simpa [Nat.add_assoc] using hcs 1 _ rfl,by simpa [Nat.add_assoc] using hcs 2 _ rfl,h2,hz⟩
theorem port_at {w:World} {A:Option Addr} {n:Nat} {xs:List PortD} (h:RPorts w (.slice A xs.length n) xs) {i:Nat} {x:PortD} (hi:xs[i]?=some x):∃b off:Nat,A=some ⟨b,off,none⟩∧w.cell? ⟨b,off+i * 3,none⟩=some (.string x.name)∧w.cell? ⟨b,off+i * 3+1,none⟩=some (.int .i64 x.dir)∧w.cell? ⟨b,off+i * 3+2,none⟩=some (.int .i64 x.net)∧x.name.size≤maxLen:=by
 obtain ⟨A',n',e,-,-,hx⟩:=RList.form h
 injection e with e1 e2
 subst e1
 obtain ⟨b,off,rfl,ds,hl1,hcs,hr⟩:=hx i x hi
 obtain ⟨d0,d1,d2,rfl⟩:=list3 hl1
 obtain ⟨rfl,rfl,rfl,hz⟩:=hr.parts
 exact ⟨b,off,rfl,by simpa using hcs 0 _ rfl,by simpa [Nat.add_assoc] using hcs 1 _ rfl,by simpa [Nat.add_assoc] using hcs 2 _ rfl,hz⟩
set_option maxHeartbeats 8000000 in
theorem l05Parts_any {vl a b c:Value} {cs:List CellD} {d:DesignD} (w:World) (hl:RCells w vl cs) (hd:RDesign w [a,b,c] d) :
  Calls Tryz.prog 40 #[.agg #[vl],.agg #[a,b,c]] w fun e w'=>e=.returned (.bool (pB (PartsP cs d)))∧Grows w w':=by
 have cl:=RList.len hl
 obtain ⟨C,nc,rfl⟩:∃(D:Option Addr) (nd:Nat),vl=.slice D cs.length nd:=by obtain ⟨D,c,e,-⟩:=RList.form hl;exact ⟨D,c,e⟩
 obtain ⟨h1,h2,h3⟩:=hd.parts
 have il:=RList.len h1
 have nl:=RList.len h2
 have ol:=RList.len h3
 obtain ⟨⟨I,ni,rfl⟩,⟨N,nn,rfl⟩,⟨O,no,rfl⟩⟩:(∃(A:Option Addr) (n:Nat),a=.slice A d.insts.length n)∧(∃(A:Option Addr) (n:Nat),b=.slice A d.nets.length n)∧(∃(A:Option Addr) (n:Nat),c=.slice A d.ports.length n) :=
  ⟨(by obtain ⟨A,c,e,-⟩:=RList.form h1;exact ⟨A,c,e⟩),(by obtain ⟨A,c,e,-⟩:=RList.form h2;exact ⟨A,c,e⟩),(by obtain ⟨A,c,e,-⟩:=RList.form h3;exact ⟨A,c,e⟩)⟩
 have g0:=((Grows.refl w).alloc (.cells #[.slice C cs.length nc] 26)).alloc (.cells #[.slice I d.insts.length ni,.slice N d.nets.length nn,.slice O d.ports.length no] 31)
 have S1:Hid (Blk ((w.alloc (.cells #[.slice C cs.length nc] 26)).alloc (.cells #[.slice I d.insts.length ni,.slice N d.nets.length nn,.slice O d.ports.length no] 31)) w.heap.size 26 #[.slice C cs.length nc]):=hideIt ((Blk.new w 26 #[.slice C cs.length nc]).grows ((Grows.refl _).alloc (.cells #[.slice I d.insts.length ni,.slice N d.nets.length nn,.slice O d.ports.length no] 31)))
 have S2:Hid (Blk ((w.alloc (.cells #[.slice C cs.length nc] 26)).alloc (.cells #[.slice I d.insts.length ni,.slice N d.nets.length nn,.slice O d.ports.length no] 31)) (w.heap.size+1) 31 #[.slice I d.insts.length ni,.slice N d.nets.length nn,.slice O d.ports.length no]):=by
  have:=Blk.new (w.alloc (.cells #[.slice C cs.length nc] 26)) 31 #[.slice I d.insts.length ni,.slice N d.nets.length nn,.slice O d.ports.length no]
  exact hideIt (by simpa using this)
 have HL:=hideIt (RCells.keep hl g0.keeps)
 have HI:=hideIt (RInsts.keep h1 g0.keeps)
 have HO:=hideIt (RPorts.keep h3 g0.keeps)
 have HD:=hideIt (hd.keep g0.keeps)
 have G:=hideIt g0
 clear hl hd h1 h2 h3 g0
 go_enter Tryz.func40,Tryz.ntmps40
 go_wp2
 go_loopw [6,7,8] (fun i _ _ wr=>∃k:Nat,k≤d.insts.length∧i=.int .i64 (k:Int)∧Hid (∀(j:Nat) (x:InstD),j<k→d.insts[j]?=some x→InstOk cs d x)∧Grows ((w.alloc (.cells #[.slice C cs.length nc] 26)).alloc (.cells #[.slice I d.insts.length ni,.slice N d.nets.length nn,.slice O d.ports.length no] 31)) wr) (fun i _ _ _=>d.insts.length - (intOf i).toNat)
 case atStart=>exact ⟨0,by omega,rfl,fun j x hj=>absurd hj (by omega),Grows.refl _⟩
 case round =>
  obtain ⟨k,hk,rfl,hco,hg⟩:=hrel
  have HG:=hideIt hg
  have GA:=hideIt (G.out.trans hg)
  have T1:=hideIt (S1.out.grows hg)
  have T2:=hideIt (S2.out.grows hg)
  clear hg
  have kl:wr.cell? ⟨w.heap.size,0,none⟩=some (.slice C cs.length nc):=T1.out.cell 0
  have klz:=T1.out.lt
  have kd0:wr.cell? ⟨w.heap.size+1,0,none⟩=some (.slice I d.insts.length ni):=T2.out.cell 0
  have kd1:wr.cell? ⟨w.heap.size+1,1,none⟩=some (.slice N d.nets.length nn):=T2.out.cell 1
  have kd2:wr.cell? ⟨w.heap.size+1,2,none⟩=some (.slice O d.ports.length no):=T2.out.cell 2
  have kdz:=T2.out.lt
  by_cases hlt:k<d.insts.length
  ·obtain ⟨x,hx⟩:∃x,d.insts[k]?=some x:=⟨_,List.getElem?_eq_getElem hlt⟩
   obtain ⟨bi,oi,XN,xn,rfl,q0,q1,q2,hxn⟩:=inst_at (RInsts.keep HI.out HG.out.keeps) hx
   replace hxn:=hideIt hxn.1
   have X1:=hideIt hx
   have XL:=RList.len hxn.out
   clear hx
   have BX:=hideIt (Blk.new wr 72 #[.string x.name,.int .i64 x.cell,.slice XN x.nets.length xn])
   have GX:=hideIt ((Grows.refl wr).alloc (.cells #[.string x.name,.int .i64 x.cell,.slice XN x.nets.length xn] 72))
   have ew:IntKind.i64.wrap ((cs.length:Int) - 1)=(cs.length:Int) - 1:=IntWalk.i64_in _ (by omega)
   cases qc:inB x.cell 0 ((cs.length:Int) - 1)
   ·have EP:=hideIt (pB_false (p:=PartsP cs d) fun h=>by have:=(h.1 k x X1.out).cell;rw [qc] at this;cases this)
    have FC:=hideIt qc
    clear qc
    have K0:∀w',Grows (wr.alloc (.cells #[.string x.name,.int .i64 x.cell,.slice XN x.nets.length xn] 72)) w'→w'.cell? ⟨w.heap.size,0,none⟩=some (.slice C cs.length nc)∧w'.cell? ⟨w.heap.size+1,0,none⟩=some (.slice (some ⟨bi,oi,none⟩) d.insts.length ni)∧w'.cell? ⟨w.heap.size+1,1,none⟩=some (.slice N d.nets.length nn)∧w'.cell? ⟨w.heap.size+1,2,none⟩=some (.slice O d.ports.length no)∧w'.cell? ⟨wr.heap.size,0,none⟩=some (.string x.name)∧w'.cell? ⟨wr.heap.size,1,none⟩=some (.int .i64 x.cell)∧w'.cell? ⟨wr.heap.size,2,none⟩=some (.slice XN x.nets.length xn)∧Grows (wr.alloc (.cells #[.string x.name,.int .i64 x.cell,.slice XN x.nets.length xn] 72)) w':=fun w' G=>⟨(G.cells.1 _ _ (T1.out.grows GX.out).lt).trans ((T1.out.grows GX.out).cell 0),(G.cells.1 _ _ (T2.out.grows GX.out).lt).trans ((T2.out.grows GX.out).cell 0),(G.cells.1 _ _ (T2.out.grows GX.out).lt).trans ((T2.out.grows GX.out).cell 1),(G.cells.1 _ _ (T2.out.grows GX.out).lt).trans ((T2.out.grows GX.out).cell 2),(G.cells.1 _ _ BX.out.lt).trans (BX.out.cell 0),(G.cells.1 _ _ BX.out.lt).trans (BX.out.cell 1),(G.cells.1 _ _ BX.out.lt).trans (BX.out.cell 2),G⟩
    have HK:=hideIt K0
    clear K0
    have gg:Grows (wr.alloc (.cells #[.string x.name,.int .i64 x.cell,.slice XN x.nets.length xn] 72)) (wr.alloc (.cells #[.string x.name,.int .i64 x.cell,.slice XN x.nets.length xn] 72)):=Grows.refl _
    go_wp2
    refine wp_region_held_drew (S:=(fun w'=>w'.cell? ⟨w.heap.size,0,none⟩=some (.slice C cs.length nc)∧w'.cell? ⟨w.heap.size+1,0,none⟩=some (.slice (some ⟨bi,oi,none⟩) d.insts.length ni)∧w'.cell? ⟨w.heap.size+1,1,none⟩=some (.slice N d.nets.length nn)∧w'.cell? ⟨w.heap.size+1,2,none⟩=some (.slice O d.ports.length no)∧w'.cell? ⟨wr.heap.size,0,none⟩=some (.string x.name)∧w'.cell? ⟨wr.heap.size,1,none⟩=some (.int .i64 x.cell)∧w'.cell? ⟨wr.heap.size,2,none⟩=some (.slice XN x.nets.length xn)∧Grows (wr.alloc (.cells #[.string x.name,.int .i64 x.cell,.slice XN x.nets.length xn] 72)) w')) (by kernel_rfl) ?_ (fun hh0=>?_)
    ·(try dsimp only);exact HK.out _ gk
    refine regTk 0 hh0 ?_
    refine regTk 1 hh0 ?_
    refine regTk 2 hh0 ?_
    refine regTk 3 hh0 ?_
    refine regTk 4 hh0 ?_
    refine regTk 5 hh0 ?_
    refine regCall 6 (fun K hK=>?_)
    go_simp
    refine (l01In_g _ _ _ _).mono ?_
    rintro e wx ⟨rfl,g⟩
    rw [FC.out]
    replace gg:=gg.gt g
    clear g
    (try go_wp2_with fail)
    refine hK.out _ _ ?_ (fun hh1=>?_)
    ·(try dsimp only);exact HK.out _ gk
    clear hK K hh0
    try simp only [Act.put,List.setIfInBounds_toArray,List.set_cons_zero,List.set_cons_succ]
    refine regTk 7 hh1 ?_
    refine regTk 8 hh1 ?_
    refine regSk 9 hh1 ?_
    refine regSk 10 hh1 ?_
    refine regSk 11 hh1 ?_
    refine regSk 12 hh1 ?_
    refine regSk 13 hh1 ?_
    refine regSk 14 hh1 ?_
    refine regSk 15 hh1 ?_
    refine regSk 16 hh1 ?_
    refine regSk 17 hh1 ?_
    refine regSk 18 hh1 ?_
    refine regSk 19 hh1 ?_
    refine regSk 20 hh1 ?_
    refine regTk 21 hh1 ?_
    refine wpAnyH_done (by kernel_rfl) ?_ _
    clear hh1
    go_wp2
    go_ret
    exact ⟨ret_bool EP.out.symm,GA.out.trans (GX.out.trans gg)⟩
   have hb:=inB_true qc
   obtain ⟨ci,hci⟩:∃ci:Nat,x.cell=(ci:Int):=⟨x.cell.toNat,by omega⟩
   have hcl:ci<cs.length:=by omega
   obtain ⟨cc,hcc⟩:∃cc,cs[ci]?=some cc:=⟨_,List.getElem?_eq_getElem hcl⟩
   have hct:x.cell.toNat=ci:=by omega
   obtain ⟨bl,ol_,PB,pm,eC,hpc,hpr⟩:=pins_at HL.out hcc
   subst eC
   have PL:=RList.len hpr
   have kp:=hideIt (HG.out.keeps _ _ hpc)
   have lbl:=hideIt (cell_lt kp.out)
   have CC:=hideIt hcc
   have HCI:=hideIt hci
   have FC:=hideIt qc
   clear hpc hpr hcc hb qc
   have i0:(0:Int)≤x.cell:=by have:=HCI.out;omega
   have i1:x.cell<(cs.length:Int):=by have:=HCI.out;omega
   have i2:x.cell.toNat=ci:=hct
   clear hct hci
   by_cases hpn:x.nets.length=cc.pins.length
   rotate_left
   ·have EP:=hideIt (pB_false (p:=PartsP cs d) fun h=>hpn ((h.1 k x X1.out).pins cc (by rw [i2];exact CC.out)))
    have hp1:((x.nets.length:Int) != (cc.pins.length:Int))=true:=by rw [bne_iff_ne];omega
    clear hpn
    have K0:∀w',Grows (wr.alloc (.cells #[.string x.name,.int .i64 x.cell,.slice XN x.nets.length xn] 72)) w'→w'.cell? ⟨w.heap.size,0,none⟩=some (.slice (some ⟨bl,ol_,none⟩) cs.length nc)∧w'.cell? ⟨w.heap.size+1,0,none⟩=some (.slice (some ⟨bi,oi,none⟩) d.insts.length ni)∧w'.cell? ⟨w.heap.size+1,1,none⟩=some (.slice N d.nets.length nn)∧w'.cell? ⟨w.heap.size+1,2,none⟩=some (.slice O d.ports.length no)∧w'.cell? ⟨wr.heap.size,0,none⟩=some (.string x.name)∧w'.cell? ⟨wr.heap.size,1,none⟩=some (.int .i64 x.cell)∧w'.cell? ⟨wr.heap.size,2,none⟩=some (.slice XN x.nets.length xn)∧w'.cell? ⟨bl,ol_+ci * 7+2,none⟩=some (.slice PB cc.pins.length pm)∧Grows (wr.alloc (.cells #[.string x.name,.int .i64 x.cell,.slice XN x.nets.length xn] 72)) w':=fun w' G=>⟨(G.cells.1 _ _ (T1.out.grows GX.out).lt).trans ((T1.out.grows GX.out).cell 0),(G.cells.1 _ _ (T2.out.grows GX.out).lt).trans ((T2.out.grows GX.out).cell 0),(G.cells.1 _ _ (T2.out.grows GX.out).lt).trans ((T2.out.grows GX.out).cell 1),(G.cells.1 _ _ (T2.out.grows GX.out).lt).trans ((T2.out.grows GX.out).cell 2),(G.cells.1 _ _ BX.out.lt).trans (BX.out.cell 0),(G.cells.1 _ _ BX.out.lt).trans (BX.out.cell 1),(G.cells.1 _ _ BX.out.lt).trans (BX.out.cell 2),(G.cells.1 _ _ (by have:=lbl.out;simp at this ⊢;omega)).trans (GX.out.keeps _ _ kp.out),G⟩
    have HK:=hideIt K0
    clear K0
    have gg:Grows (wr.alloc (.cells #[.string x.name,.int .i64 x.cell,.slice XN x.nets.length xn] 72)) (wr.alloc (.cells #[.string x.name,.int .i64 x.cell,.slice XN x.nets.length xn] 72)):=Grows.refl _
    go_wp2
    refine wp_region_held_drew (S:=(fun w'=>w'.cell? ⟨w.heap.size,0,none⟩=some (.slice (some ⟨bl,ol_,none⟩) cs.length nc)∧w'.cell? ⟨w.heap.size+1,0,none⟩=some (.slice (some ⟨bi,oi,none⟩) d.insts.length ni)∧w'.cell? ⟨w.heap.size+1,1,none⟩=some (.slice N d.nets.length nn)∧w'.cell? ⟨w.heap.size+1,2,none⟩=some (.slice O d.ports.length no)∧w'.cell? ⟨wr.heap.size,0,none⟩=some (.string x.name)∧w'.cell? ⟨wr.heap.size,1,none⟩=some (.int .i64 x.cell)∧w'.cell? ⟨wr.heap.size,2,none⟩=some (.slice XN x.nets.length xn)∧w'.cell? ⟨bl,ol_+ci * 7+2,none⟩=some (.slice PB cc.pins.length pm)∧Grows (wr.alloc (.cells #[.string x.name,.int .i64 x.cell,.slice XN x.nets.length xn] 72)) w')) (by kernel_rfl) ?_ (fun hh0=>?_)
    ·(try dsimp only);exact HK.out _ gk
    refine regTk 0 hh0 ?_
    refine regTk 1 hh0 ?_
    refine regTk 2 hh0 ?_
    refine regTk 3 hh0 ?_
    refine regTk 4 hh0 ?_
    refine regTk 5 hh0 ?_
    refine regCall 6 (fun K hK=>?_)
    go_simp
    refine (l01In_g _ _ _ _).mono ?_
    rintro e wx ⟨rfl,g⟩
    rw [FC.out]
    replace gg:=gg.gt g
    clear g
    (try go_wp2_with fail)
    refine hK.out _ _ ?_ (fun hh1=>?_)
    ·(try dsimp only);exact HK.out _ gk
    clear hK K hh0
    try simp only [Act.put,List.setIfInBounds_toArray,List.set_cons_zero,List.set_cons_succ]
    refine regTk 7 hh1 ?_
    refine regTk 8 hh1 ?_
    refine regTk 9 hh1 ?_
    refine regTk 10 hh1 ?_
    refine regTk 11 hh1 ?_
    refine regTk 12 hh1 ?_
    refine regTk 13 hh1 ?_
    refine regTk 14 hh1 ?_
    refine regTk 15 hh1 ?_
    refine regTk 16 hh1 ?_
    refine regTk 17 hh1 ?_
    refine regTk 18 hh1 ?_
    refine regTk 19 hh1 ?_
    refine regTk 20 hh1 ?_
    refine regTk 21 hh1 ?_
    refine wpAnyH_done (by kernel_rfl) ?_ _
    clear hh1
    go_wp2
    go_ret
    exact ⟨ret_bool EP.out.symm,GA.out.trans (GX.out.trans gg)⟩
   have hp1:((x.nets.length:Int) != (cc.pins.length:Int))=false:=by rw [bne_eq_false_iff_eq];omega
   have HPN:=hideIt hpn
   clear hpn
   have K0:∀w',Grows (wr.alloc (.cells #[.string x.name,.int .i64 x.cell,.slice XN x.nets.length xn] 72)) w'→w'.cell? ⟨w.heap.size,0,none⟩=some (.slice (some ⟨bl,ol_,none⟩) cs.length nc)∧w'.cell? ⟨w.heap.size+1,0,none⟩=some (.slice (some ⟨bi,oi,none⟩) d.insts.length ni)∧w'.cell? ⟨w.heap.size+1,1,none⟩=some (.slice N d.nets.length nn)∧w'.cell? ⟨w.heap.size+1,2,none⟩=some (.slice O d.ports.length no)∧w'.cell? ⟨wr.heap.size,0,none⟩=some (.string x.name)∧w'.cell? ⟨wr.heap.size,1,none⟩=some (.int .i64 x.cell)∧w'.cell? ⟨wr.heap.size,2,none⟩=some (.slice XN x.nets.length xn)∧w'.cell? ⟨bl,ol_+ci * 7+2,none⟩=some (.slice PB cc.pins.length pm)∧Grows (wr.alloc (.cells #[.string x.name,.int .i64 x.cell,.slice XN x.nets.length xn] 72)) w':=fun w' G=>⟨(G.cells.1 _ _ (T1.out.grows GX.out).lt).trans ((T1.out.grows GX.out).cell 0),(G.cells.1 _ _ (T2.out.grows GX.out).lt).trans ((T2.out.grows GX.out).cell 0),(G.cells.1 _ _ (T2.out.grows GX.out).lt).trans ((T2.out.grows GX.out).cell 1),(G.cells.1 _ _ (T2.out.grows GX.out).lt).trans ((T2.out.grows GX.out).cell 2),(G.cells.1 _ _ BX.out.lt).trans (BX.out.cell 0),(G.cells.1 _ _ BX.out.lt).trans (BX.out.cell 1),(G.cells.1 _ _ BX.out.lt).trans (BX.out.cell 2),(G.cells.1 _ _ (by have:=lbl.out;simp at this ⊢;omega)).trans (GX.out.keeps _ _ kp.out),G⟩
   have HK:=hideIt K0
   clear K0
   have gg:Grows (wr.alloc (.cells #[.string x.name,.int .i64 x.cell,.slice XN x.nets.length xn] 72)) (wr.alloc (.cells #[.string x.name,.int .i64 x.cell,.slice XN x.nets.length xn] 72)):=Grows.refl _
   go_wp2
   refine wp_region_held_drew (S:=(fun w'=>w'.cell? ⟨w.heap.size,0,none⟩=some (.slice (some ⟨bl,ol_,none⟩) cs.length nc)∧w'.cell? ⟨w.heap.size+1,0,none⟩=some (.slice (some ⟨bi,oi,none⟩) d.insts.length ni)∧w'.cell? ⟨w.heap.size+1,1,none⟩=some (.slice N d.nets.length nn)∧w'.cell? ⟨w.heap.size+1,2,none⟩=some (.slice O d.ports.length no)∧w'.cell? ⟨wr.heap.size,0,none⟩=some (.string x.name)∧w'.cell? ⟨wr.heap.size,1,none⟩=some (.int .i64 x.cell)∧w'.cell? ⟨wr.heap.size,2,none⟩=some (.slice XN x.nets.length xn)∧w'.cell? ⟨bl,ol_+ci * 7+2,none⟩=some (.slice PB cc.pins.length pm)∧Grows (wr.alloc (.cells #[.string x.name,.int .i64 x.cell,.slice XN x.nets.length xn] 72)) w')) (by kernel_rfl) ?_ (fun hh0=>?_)
   ·(try dsimp only);exact HK.out _ gk
   refine regTk 0 hh0 ?_
   refine regTk 1 hh0 ?_
   refine regTk 2 hh0 ?_
   refine regTk 3 hh0 ?_
   refine regTk 4 hh0 ?_
   refine regTk 5 hh0 ?_
   refine regCall 6 (fun K hK=>?_)
   go_simp
   refine (l01In_g _ _ _ _).mono ?_
   rintro e wx ⟨rfl,g⟩
   rw [FC.out]
   replace gg:=gg.gt g
   clear g
   (try go_wp2_with fail)
   refine hK.out _ _ ?_ (fun hh1=>?_)
   ·(try dsimp only);exact HK.out _ gk
   clear hK K hh0
   try simp only [Act.put,List.setIfInBounds_toArray,List.set_cons_zero,List.set_cons_succ]
   refine regTk 7 hh1 ?_
   refine regTk 8 hh1 ?_
   refine regTk 9 hh1 ?_
   refine regTk 10 hh1 ?_
   refine regTk 11 hh1 ?_
   refine regTk 12 hh1 ?_
   refine regTk 13 hh1 ?_
   refine regTk 14 hh1 ?_
   refine regTk 15 hh1 ?_
   refine regTk 16 hh1 ?_
   refine regTk 17 hh1 ?_
   refine regTk 18 hh1 ?_
   refine regTk 19 hh1 ?_
   refine regTk 20 hh1 ?_
   refine regTk 21 hh1 ?_
   refine wpAnyH_done (by kernel_rfl) ?_ _
   clear hh1
   have GW:=hideIt (GX.out.trans gg)
   have U1:=hideIt (T1.out.grows GW.out)
   have U2:=hideIt (T2.out.grows GW.out)
   have UX:=hideIt (BX.out.grows gg)
   clear gg HK kl klz kd0 kd1 kd2 kdz q0 q1 q2
   have nw:IntKind.i64.wrap ((d.nets.length:Int) - 1)=(d.nets.length:Int) - 1:=IntWalk.i64_in _ (by omega)
   have x2:wx.cell? ⟨wr.heap.size,2,none⟩=some (.slice XN x.nets.length xn):=UX.out.cell 2
   have xl:=UX.out.lt
   go_wp2
   go_loop [8] (fun i=>∃q:Nat,q≤x.nets.length∧i=.int .i64 (q:Int)∧Hid (∀(j:Nat) (v:Int),j<q→x.nets[j]?=some v→netIn d v=true)) (fun i=>x.nets.length - (intOf i).toNat)
   case atStart=>exact ⟨0,by omega,rfl,fun j v hj=>absurd hj (by omega)⟩
   case round =>
    obtain ⟨q,hq,rfl,hne⟩:=hrel
    by_cases hlq:q<x.nets.length
    ·obtain ⟨v,hv⟩:∃v,x.nets[q]?=some v:=⟨_,List.getElem?_eq_getElem hlq⟩
     obtain ⟨bn,on,rfl,kv⟩:=ints_at (RInts.keep hxn.out GW.out.keeps) hv
     have V1:=hideIt hv
     clear hv
     cases hn:netIn d v
     ·have EP:=hideIt (pB_false (p:=PartsP cs d) fun h=>by have:=List.all_eq_true.1 (h.1 k x X1.out).nets v (List.mem_of_getElem? V1.out);rw [hn] at this;cases this)
      unfold netIn at hn
      have HN:=hideIt hn
      clear hn
      go_wp2_with (go_at_call 73;refine (l01In_any _ _ _ _).mono ?_;rintro e w' ⟨rfl,rfl⟩;rw [HN.out])
      go_ret
      exact ⟨ret_bool EP.out.symm,GA.out.trans GW.out⟩
     ·have HV:=hideIt hn
      unfold netIn at hn
      have HN:=hideIt hn
      clear hn
      go_wp2_with (go_at_call 73;refine (l01In_any _ _ _ _).mono ?_;rintro e w' ⟨rfl,rfl⟩;rw [HN.out])
      go_round
      case rel=>exact ⟨q+1,by omega,by go_num,fun j u hj hu=>by
       by_cases ej:j=q
       ·subst ej;rw [V1.out] at hu;injection hu with hu;rw [←hu];exact HV.out
       ·exact hne.out j u (by omega) hu⟩
      case measure=>simp [intOf];omega
    ·obtain rfl:q=x.nets.length:=by omega
     go_wp2
     go_roundw
     case rel=>exact ⟨k+1,by omega,by go_num,fun j y hj hy=>by
      by_cases ej:j=k
      ·subst ej
       rw [X1.out] at hy
       injection hy with hy
       subst hy
       exact ⟨FC.out,fun c hc=>by rw [i2,CC.out] at hc;injection hc with hc;rw [←hc];exact HPN.out,List.all_eq_true.2 fun u hu=>by
        obtain ⟨m,hm⟩:=List.getElem?_of_mem hu
        exact hne.out m u (List.getElem?_eq_some_iff.1 hm).1 hm⟩
      ·exact hco.out j y (by omega) hy,HG.out.trans GW.out⟩
     case measure=>simp [intOf];omega
  ·obtain rfl:k=d.insts.length:=by omega
   have HIO:Hid (∀(i:Nat) (x:InstD),d.insts[i]?=some x→InstOk cs d x):=hideIt fun i x hi=>hco.out i x (List.getElem?_eq_some_iff.1 hi).1 hi
   clear hco
   have nw:IntKind.i64.wrap ((d.nets.length:Int) - 1)=(d.nets.length:Int) - 1:=IntWalk.i64_in _ (by omega)
   go_wp2
   go_loop [9] (fun i=>∃q:Nat,q≤d.ports.length∧i=.int .i64 (q:Int)∧Hid (∀(j:Nat) (p:PortD),j<q→d.ports[j]?=some p→PortOk d p)) (fun i=>d.ports.length - (intOf i).toNat)
   case atStart=>exact ⟨0,by omega,rfl,fun j v hj=>absurd hj (by omega)⟩
   case round =>
    obtain ⟨q,hq,rfl,hne⟩:=hrel
    by_cases hlq:q<d.ports.length
    ·obtain ⟨p,hp⟩:∃p,d.ports[q]?=some p:=⟨_,List.getElem?_eq_getElem hlq⟩
     obtain ⟨bn,on,rfl,kq0,kq1,kq2,-⟩:=port_at (RPorts.keep HO.out HG.out.keeps) hp
     have P1:=hideIt hp
     clear hp
     cases hdr:inB p.dir 1 2
     ·have EP:=hideIt (pB_false (p:=PartsP cs d) fun h=>by have:=(h.2 q p P1.out).dir;rw [hdr] at this;cases this)
      have HDR:=hideIt hdr
      clear hdr
      go_wp2_with (go_at_call 73;refine (l01In_any _ _ _ _).mono ?_;rintro e w' ⟨rfl,rfl⟩;rw [HDR.out])
      go_ret
      exact ⟨ret_bool EP.out.symm,GA.out⟩
     have HDR:=hideIt hdr
     clear hdr
     cases hn:netIn d p.net
     ·have EP:=hideIt (pB_false (p:=PartsP cs d) fun h=>by have:=(h.2 q p P1.out).net;rw [hn] at this;cases this)
      unfold netIn at hn
      have HN:=hideIt hn
      clear hn
      go_wp2_with (go_at_call 73;refine (l01In_any _ _ _ _).mono ?_;rintro e w' ⟨rfl,rfl⟩;first|rw [HDR.out]|rw [HN.out])
      go_ret
      exact ⟨ret_bool EP.out.symm,GA.out⟩
     ·have HV:=hideIt hn
      unfold netIn at hn
      have HN:=hideIt hn
      clear hn
      go_wp2_with (go_at_call 73;refine (l01In_any _ _ _ _).mono ?_;rintro e w' ⟨rfl,rfl⟩;first|rw [HDR.out]|rw [HN.out])
      go_round
      case rel=>exact ⟨q+1,by omega,by go_num,fun j u hj hu=>by
       by_cases ej:j=q
       ·subst ej;rw [P1.out] at hu;injection hu with hu;rw [←hu];exact ⟨HDR.out,HV.out⟩
       ·exact hne.out j u (by omega) hu⟩
      case measure=>simp [intOf];omega
    ·obtain rfl:q=d.ports.length:=by omega
     have EP:=hideIt (pB_true (p:=PartsP cs d) ⟨HIO.out,fun i p hi=>hne.out i p (List.getElem?_eq_some_iff.1 hi).1 hi⟩)
     clear hne
     go_wp2
     go_ret
     exact ⟨ret_bool EP.out.symm,GA.out⟩
end Go.Proofs.YtlnpefiipdkafaaGreatDoor
/-
  slices.IndexFunc and slices.ContainsFunc over []int and over places.
-/
namespace Go.Proofs.YtlnpefiipdkafaaGreatDoor
open Go.RowKit

/-- the function value decides p on the list's elements, in every later world -/
def PredIn (g:Nat) (lb:Array Value) (p:Int→Bool) (xs:List Int) (w:World):Prop :=
 ∀(x:Int) (c0:Value) (W:World),x∈xs→Grows w W→RI W [c0] x→Calls Tryz.prog g (#[c0]++lb) W fun e W'=>e=.returned (.bool (p x))∧Grows W W'
set_option maxHeartbeats 2000000 in
theorem indexFuncIn_any {v:Value} {xs:List Int} (g:Nat) (lb:Array Value) (eg:∀(args:Array Value) (w:World),(callFunc g args).run Tryz.prog w=.ok (.enter g args) w) (p:Int→Bool) (w:World)
  (h:RList 1 RI w v xs) (hp:PredIn g lb p xs w) :
  Calls Tryz.prog 88 #[v,.func (.func g) #[] lb] w fun e w'=>e=.returned (.int .i64 (idxF p xs))∧Grows w w':=by
 have hl:=h.len
 obtain ⟨A,c,rfl,hle,hc,hx⟩:=h.form
 have HX:=hideIt hx
 have HP:=hideIt hp
 clear hx hp h hle hc
 go_enter Tryz.func88,Tryz.ntmps88
 go_wp2
 go_loopw [5,8] (fun _ i wr=>∃k:Nat,k≤xs.length∧i=.int .i64 k∧Hid (∀(j:Nat) (y:Int),j<k→xs[j]?=some y→p y=false)∧Grows w wr) (fun _ i _=>xs.length - (intOf i).toNat)
 case atStart=>exact ⟨0,Nat.zero_le _,rfl,fun i y hi=>absurd hi (by omega),Grows.refl _⟩
 case round =>
  obtain ⟨k,hk,rfl,hco,hg⟩:=hrel
  by_cases hlt:k<xs.length
  ·obtain ⟨x,hx⟩:∃x,xs[k]?=some x:=⟨_,List.getElem?_eq_getElem hlt⟩
   obtain ⟨b,off,rfl,cs,hl1,hcs,hr⟩:=HX.out k x hx
   obtain ⟨c0,rfl⟩:=list1 hl1
   have hcall:=fun W (gw:Grows wr W) (hr':RI W [c0] x)=>HP.out x c0 W (List.mem_of_getElem? hx) (hg.trans gw) hr'
   have HR:Hid (RI wr [c0] x):=by have h:=hr;exact h
   have hs0:wr.cell? ⟨b,off+k,none⟩=some c0:=by simpa using hg.keeps _ _ (hcs 0 _ rfl)
   have X1:=hideIt hx
   clear hcs hl1 hx hr
   have HC:=hideIt hcall
   clear hcall
   cases hq:p x with
   | true =>
    have HQ:=hideIt hq
    go_wp2_with (go_at_fn g;refine (HC.out _ (by repeat (first|exact Grows.refl _|refine Grows.drew ?_)) HR.out).mono ?_;rintro e w' ⟨rfl,g2⟩;rw [HQ.out])
    go_ret
    exact ⟨ret_int (idxF_hit X1.out HQ.out hco.out).symm,hg.trans (by assumption)⟩
   | false =>
    have HQ:=hideIt hq
    go_wp2_with (go_at_fn g;refine (HC.out _ (by repeat (first|exact Grows.refl _|refine Grows.drew ?_)) HR.out).mono ?_;rintro e w' ⟨rfl,g2⟩;rw [HQ.out])
    go_roundw
    case rel=>exact ⟨k+1,by omega,by go_num,fun j y hj hy=>by
     by_cases e:j=k
     ·subst e;rw [X1.out] at hy;injection hy with hy;rw [←hy];exact HQ.out
     ·exact hco.out j y (by omega) hy,hg.trans (by assumption)⟩
    case measure=>simp [intOf];omega
  ·have hk2:k=xs.length:=by omega
   subst hk2
   go_wp2
   go_ret
   exact ⟨ret_int (idxF_miss hco.out).symm,hg⟩
set_option maxHeartbeats 1000000 in
theorem containsFuncIn_any {v:Value} {xs:List Int} (g:Nat) (lb:Array Value) (eg:∀(args:Array Value) (w:World),(callFunc g args).run Tryz.prog w=.ok (.enter g args) w) (p:Int→Bool) (w:World)
  (h:RList 1 RI w v xs) (hp:PredIn g lb p xs w) :
  Calls Tryz.prog 46 #[v,.func (.func g) #[] lb] w fun e w'=>e=.returned (.bool (xs.any p))∧Grows w w':=by
 have E:=hideIt (idxF_any p xs)
 have HC:=hideIt (indexFuncIn_any g lb eg p w h hp)
 clear h hp
 go_enter Tryz.func46,Tryz.ntmps46
 go_wp2_with (go_at_call 88;refine HC.out.mono ?_;rintro e w' ⟨rfl,g2⟩)
 go_ret
 exact ⟨ret_bool E.out,by assumption⟩
/-- the function value decides p on the list's elements, in every later world -/
def PredPlace (g:Nat) (lb:Array Value) (p:PlaceD→Bool) (xs:List PlaceD) (w:World):Prop :=
 ∀(x:PlaceD) (c0 c1 c2 c3:Value) (W:World),x∈xs→Grows w W→RPlace W [c0,c1,c2,c3] x→Calls Tryz.prog g (#[.agg #[c0,c1,c2,c3]]++lb) W fun e W'=>e=.returned (.bool (p x))∧Grows W W'
set_option maxHeartbeats 2000000 in
theorem indexFuncPlace_any {v:Value} {xs:List PlaceD} (g:Nat) (lb:Array Value) (eg:∀(args:Array Value) (w:World),(callFunc g args).run Tryz.prog w=.ok (.enter g args) w) (p:PlaceD→Bool) (w:World)
  (h:RList 4 RPlace w v xs) (hp:PredPlace g lb p xs w) :
  Calls Tryz.prog 89 #[v,.func (.func g) #[] lb] w fun e w'=>e=.returned (.int .i64 (idxF p xs))∧Grows w w':=by
 have hl:=h.len
 obtain ⟨A,c,rfl,hle,hc,hx⟩:=h.form
 have HX:=hideIt hx
 have HP:=hideIt hp
 clear hx hp h hle hc
 go_enter Tryz.func89,Tryz.ntmps89
 go_wp2
 go_loopw [5,8] (fun _ i wr=>∃k:Nat,k≤xs.length∧i=.int .i64 k∧Hid (∀(j:Nat) (y:PlaceD),j<k→xs[j]?=some y→p y=false)∧Grows w wr) (fun _ i _=>xs.length - (intOf i).toNat)
 case atStart=>exact ⟨0,Nat.zero_le _,rfl,fun i y hi=>absurd hi (by omega),Grows.refl _⟩
 case round =>
  obtain ⟨k,hk,rfl,hco,hg⟩:=hrel
  by_cases hlt:k<xs.length
  ·obtain ⟨x,hx⟩:∃x,xs[k]?=some x:=⟨_,List.getElem?_eq_getElem hlt⟩
   obtain ⟨b,off,rfl,cs,hl1,hcs,hr⟩:=HX.out k x hx
   obtain ⟨c0,c1,c2,c3,rfl⟩:=list4 hl1
   have hcall:=fun W (gw:Grows wr W) (hr':RPlace W [c0,c1,c2,c3] x)=>HP.out x c0 c1 c2 c3 W (List.mem_of_getElem? hx) (hg.trans gw) hr'
   have HR:Hid (RPlace wr [c0,c1,c2,c3] x):=by have h:=hr;exact h
   have hs0:wr.cell? ⟨b,off+k * 4,none⟩=some c0:=by simpa [Nat.add_assoc] using hg.keeps _ _ (hcs 0 _ rfl)
   have hs1:wr.cell? ⟨b,off+k * 4+1,none⟩=some c1:=by simpa [Nat.add_assoc] using hg.keeps _ _ (hcs 1 _ rfl)
   have hs2:wr.cell? ⟨b,off+k * 4+2,none⟩=some c2:=by simpa [Nat.add_assoc] using hg.keeps _ _ (hcs 2 _ rfl)
   have hs3:wr.cell? ⟨b,off+k * 4+3,none⟩=some c3:=by simpa [Nat.add_assoc] using hg.keeps _ _ (hcs 3 _ rfl)
   have X1:=hideIt hx
   clear hcs hl1 hx hr
   have HC:=hideIt hcall
   clear hcall
   cases hq:p x with
   | true =>
    have HQ:=hideIt hq
    go_wp2_with (go_at_fn g;refine (HC.out _ (by repeat (first|exact Grows.refl _|refine Grows.drew ?_)) HR.out).mono ?_;rintro e w' ⟨rfl,g2⟩;rw [HQ.out])
    go_ret
    exact ⟨ret_int (idxF_hit X1.out HQ.out hco.out).symm,hg.trans (by assumption)⟩
   | false =>
    have HQ:=hideIt hq
    go_wp2_with (go_at_fn g;refine (HC.out _ (by repeat (first|exact Grows.refl _|refine Grows.drew ?_)) HR.out).mono ?_;rintro e w' ⟨rfl,g2⟩;rw [HQ.out])
    go_roundw
    case rel=>exact ⟨k+1,by omega,by go_num,fun j y hj hy=>by
     by_cases e:j=k
     ·subst e;rw [X1.out] at hy;injection hy with hy;rw [←hy];exact HQ.out
     ·exact hco.out j y (by omega) hy,hg.trans (by assumption)⟩
    case measure=>simp [intOf];omega
  ·have hk2:k=xs.length:=by omega
   subst hk2
   go_wp2
   go_ret
   exact ⟨ret_int (idxF_miss hco.out).symm,hg⟩
end Go.Proofs.YtlnpefiipdkafaaGreatDoor
/-
  Contract of the reference's test of different names.
-/
namespace Go.Proofs.YtlnpefiipdkafaaGreatDoor
open Go.RowKit
set_option maxHeartbeats 2000000 in
theorem l05Names_any {v:Value} {xs:List ByteArray} (w:World) (h:RStrs w v xs) :
  Calls Tryz.prog 41 #[v] w fun e w'=>e=.returned (.bool (pB (NamesP xs)))∧Grows w w':=by
 have hl:=RList.len h
 obtain ⟨A,c,rfl,hle,hcm,hx⟩:=RList.form h
 have HX:=hideIt (fun (i:Nat) (s:ByteArray) (hi:xs[i]?=some s)=>(by obtain ⟨b,off,e,ds,hl1,hcs,hr,hz⟩:=hx i s hi;exact ⟨b,off,e,by subst hr;simpa using hcs 0 _ rfl,hz⟩:∃b off:Nat,A=some ⟨b,off,none⟩∧w.cell? ⟨b,off+i,none⟩=some (.string s)∧s.size≤maxLen))
 clear hx h
 go_enter Tryz.func41,Tryz.ntmps41
 go_wp2
 go_loopw [3,4] (fun i _ wr=>∃k:Nat,k≤xs.length∧i=.int .i64 (k:Int)∧Hid (∀(j:Nat) (u:ByteArray),j<k→xs[j]?=some u→nameB u=true∧∀(i:Nat) (s:ByteArray),i<j→xs[i]?=some s→¬s=u)∧Grows w wr) (fun i _ _=>xs.length - (intOf i).toNat)
 case atStart=>exact ⟨0,by omega,rfl,fun j u hj=>absurd hj (by omega),Grows.refl _⟩
 case round =>
  obtain ⟨k,hk,rfl,hco,hg⟩:=hrel
  have HG:=hideIt hg
  clear hg
  by_cases hlt:k<xs.length
  ·obtain ⟨u,hu⟩:∃u,xs[k]?=some u:=⟨_,List.getElem?_eq_getElem hlt⟩
   obtain ⟨b,off,rfl,hc,hz⟩:=HX.out k u hu
   have hs0:wr.cell? ⟨b,off+k,none⟩=some (.string u):=HG.out.keeps _ _ hc
   have U:=hideIt hu
   clear hc hu
   cases hn:nameB u
   ·have EP:=hideIt (pB_false (p:=NamesP xs) fun h=>by have:=h.1 _ u U.out;rw [hn] at this;cases this)
    have HN:=hideIt hn
    clear hn
    go_wp2_with (go_at_call 81;refine (l03Name_any _ _ hz).mono ?_;rintro e w' ⟨rfl,hw⟩;rw [hw];clear hw w';rw [HN.out])
    go_ret
    exact ⟨ret_bool EP.out.symm,HG.out⟩
   have HN:=hideIt hn
   clear hn
   obtain ⟨wo,ewo⟩:∃wo:World,wo=wr:=⟨_,rfl⟩
   subst ewo
   go_wp2_with (go_at_call 81;refine (l03Name_any _ _ hz).mono ?_;rintro e w' ⟨rfl,hw⟩;rw [hw];clear hw w';rw [HN.out])
   go_loopw [4] (fun i wr=>∃q:Nat,q≤k∧i=.int .i64 (q:Int)∧Hid (∀(j:Nat) (r:ByteArray),j<q→xs[j]?=some r→¬r=u)∧Grows wo wr) (fun i _=>k - (intOf i).toNat)
   case atStart=>exact ⟨0,by omega,rfl,fun j r hj=>absurd hj (by omega),Grows.refl _⟩
   case round =>
    obtain ⟨q,hq,rfl,hne,hg2⟩:=hrel
    have HG2:=hideIt hg2
    have GG2:=hideIt (HG.out.trans hg2)
    have hs1:wr.cell? ⟨b,off+k,none⟩=some (.string u):=hg2.keeps _ _ hs0
    clear hg2
    by_cases hlq:q<k
    ·obtain ⟨r,hr⟩:∃r,xs[q]?=some r:=⟨_,List.getElem?_eq_getElem (by omega)⟩
     have kq:wr.cell? ⟨b,off+q,none⟩=some (.string r):=by
      obtain ⟨b',off',e,hc,-⟩:=HX.out q r hr
      injection e with e
      injection e with e1 e2
      subst e1 e2
      exact GG2.out.keeps _ _ hc
     have Q1:=hideIt hr
     have kq2:q<xs.length:=by omega
     clear hr
     by_cases he:r=u
     ·have EP:=hideIt (pB_false (p:=NamesP xs) fun h=>h.2 q k r u hlq Q1.out U.out he)
      have he1:(r.toList==u.toList)=true:=by rw [he];simp
      clear he
      go_wp2
      (try (go_quiet (fail);go_wp2))
      go_ret
      exact ⟨ret_bool EP.out.symm,by first|exact GG2.out|exact GG2.out.drewN _⟩
     ·have he1:=strNe he
      have HE:=hideIt he
      clear he
      go_wp2
      (try (go_quiet (fail);go_wp2))
      go_roundw
      case rel=>exact ⟨q+1,by omega,by go_num,fun j s hj hs=>by
       by_cases ej:j=q
       ·subst ej
        rw [Q1.out] at hs
        injection hs with hs
        rw [←hs]
        exact HE.out
       ·exact hne.out j s (by omega) hs,by first|exact HG2.out|exact HG2.out.drewN _⟩
      case measure=>simp [intOf];omega
    ·obtain rfl:q=k:=by omega
     go_wp2
     go_roundw
     case rel=>exact ⟨q+1,by omega,by go_num,fun j s hj hs=>by
      by_cases ej:j=q
      ·subst ej
       rw [U.out] at hs
       injection hs with hs
       subst hs
       exact ⟨HN.out,fun m r hm hr=>hne.out m r hm hr⟩
      ·exact hco.out j s (by omega) hs,GG2.out⟩
     case measure=>simp [intOf];omega
  ·obtain rfl:k=xs.length:=by omega
   have EP:=hideIt (pB_true (p:=NamesP xs) ⟨fun i s hi=>(hco.out i s (List.getElem?_eq_some_iff.1 hi).1 hi).1,fun i j s u hij hi hj=>(hco.out j u (List.getElem?_eq_some_iff.1 hj).1 hj).2 i s hij hi⟩)
   clear hco
   go_wp2
   go_ret
   exact ⟨ret_bool EP.out.symm,HG.out⟩
end Go.Proofs.YtlnpefiipdkafaaGreatDoor
