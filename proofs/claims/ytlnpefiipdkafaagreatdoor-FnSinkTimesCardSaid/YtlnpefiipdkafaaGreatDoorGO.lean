/-
  What it means that at most certain blocks have turned.
-/
import Derived.Test.YtlnpefiipdkafaaGreatDoorGA
namespace Go.Proofs.YtlnpefiipdkafaaGreatDoor
open Go.RowKit

/-- at most these blocks have turned; nothing has gone -/
structure Chg (bs:List Nat) (w w':World):Prop where
 os:w'.os=w.os
 tape:w'.tape=w.tape
 output:w'.output=w.output
 size:w.heap.size≤w'.heap.size
 block:∀g,g<w.heap.size→g∉bs→w'.heap[g]?=w.heap[g]?
theorem Chg.refl (bs:List Nat) (w:World):Chg bs w w:=⟨rfl,rfl,rfl,Nat.le_refl _,fun _ _ _=>rfl⟩
theorem Chg.trans {bs:List Nat} {a b c:World} (h:Chg bs a b) (k:Chg bs b c):Chg bs a c :=
 ⟨k.os.trans h.os,k.tape.trans h.tape,k.output.trans h.output,Nat.le_trans h.size k.size,fun g hg hn=>(k.block g (Nat.lt_of_lt_of_le hg h.size) hn).trans (h.block g hg hn)⟩
theorem Chg.mono {bs cs:List Nat} {a b:World} (h:Chg bs a b) (hs:∀g∈bs,g∈cs):Chg cs a b :=
 ⟨h.os,h.tape,h.output,h.size,fun g hg hn=>h.block g hg fun hm=>hn (hs g hm)⟩
theorem Chg.of_grows {bs:List Nat} {a b:World} (h:Grows a b):Chg bs a b:=⟨h.os,h.tape,h.output,h.size,fun g hg _=>Below.block h g hg⟩
theorem Chg.setCell {bs:List Nat} {a w:World} (h:Chg bs a w) {p:Addr} (hp:p.block∈bs) (u:Value):Chg bs a (w.setCell p u) :=
 ⟨h.os,h.tape,h.output,by simpa [World.setCell] using h.size,fun g hg hn=>(Below.heap_setCell w p u g (by rintro rfl;exact hn hp)).trans (h.block g hg hn)⟩
theorem Grows.chg {W w w':World} {bs:List Nat} (h:Grows W w) (k:Chg bs w w') (hb:∀g∈bs,W.heap.size≤g):Grows W w' :=
 ⟨k.os.trans h.os,k.tape.trans h.tape,k.output.trans h.output,Nat.le_trans h.size k.size,fun g hg=>(k.block g (Nat.lt_of_lt_of_le hg h.size) fun hm=>by have:=hb g hm;omega).trans (Below.block h g hg)⟩
theorem Chg.same {bs cs:List Nat} {w w':World} (h:Chg bs w w') (hl:∀g∈cs,g<w.heap.size) (hd:∀g∈cs,g∉bs):SameOn cs w w':=fun g hg=>h.block g (hl g hg) (hd g hg)
theorem Blk.chg {w w':World} {g:Nat} {t:TypeId} {cs:Array Value} {bs:List Nat} (h:Blk w g t cs) (k:Chg bs w w') (hn:g∉bs):Blk w' g t cs:=(k.block g h.lt hn).trans h

theorem Chg.drewN {bs:List Nat} {a w:World} (h:Chg bs a w) (n:Nat):Chg bs a (w.drewN n):=⟨h.os,h.tape,h.output,h.size,h.block⟩
theorem Chg.drew {bs:List Nat} {a w:World} (h:Chg bs a w):Chg bs a w.drew:=⟨h.os,h.tape,h.output,h.size,h.block⟩
theorem Chg.alloc {bs:List Nat} {a w:World} (h:Chg bs a w) (o:Obj):Chg bs a (w.alloc o):=h.trans (Chg.of_grows ((Grows.refl w).alloc o))
theorem Blk.drewN {w:World} {g:Nat} {t:TypeId} {cs:Array Value} (h:Blk w g t cs) (n:Nat):Blk (w.drewN n) g t cs:=h
theorem Blk.setE {w:World} {g:Nat} {t:TypeId} {cs ds:Array Value} {i:Nat} {u:Value} (h:Blk w g t cs) (e:ds=cs.setIfInBounds i u):Blk (w.setCell ⟨g,i,none⟩ u) g t ds:=by subst e;exact h.set_ i u
end Go.Proofs.YtlnpefiipdkafaaGreatDoor
/-
  Contracts of the functions that mark a value's memory with numbers and that look whether the marks stand.
-/
namespace Go.Proofs.YtlnpefiipdkafaaGreatDoor
open Go.RowKit

/-- the marks from k on -/
def mkL (k:Int) (n:Nat):List Int:=(List.range n).map fun (i:Nat)=>k+(i:Int)
theorem mkL_len (k:Int) (n:Nat):(mkL k n).length=n:=by simp [mkL]
theorem mkL_at {k:Int} {n i:Nat} (h:i<n):(mkL k n)[i]?=some (k+(i:Int)):=by simp [mkL,h]

def mkTable (k:Int) (t:TableD):TableD:=⟨mkL k t.slews.length,mkL (k+t.slews.length) t.loads.length,mkL (k+t.slews.length+t.loads.length) t.values.length⟩
end Go.Proofs.YtlnpefiipdkafaaGreatDoor
/-
  What marking a list of structs keeps: the headers of nested slices, and the blocks of the elements that are still to come.
-/
namespace Go.Proofs.YtlnpefiipdkafaaGreatDoor
open Go.RowKit

theorem at_world {P:Program} {n:Nat} {args:Array Value} {W:World} {Q:Ending→World→Prop} (st:World→Prop) (hW:st W) (h:∀u,st u→Calls P n args u Q):Calls P n args W Q:=h W hW

/-- block g is a row of structs of sz cells; fields fs are as in cs; besides it at most the blocks bs have turned -/
structure MkSt (sz:Nat) (t:TypeId) (fs:List Nat) (w:World) (g:Nat) (cs:Array Value) (bs:List Nat) (wr:World):Prop where
 ex:∃ds:Array Value,Blk wr g t ds∧ds.size=cs.size∧∀j f,f∈fs→ds[j * sz+f]?=cs[j * sz+f]?
 chg:Chg (g::bs) w wr
section
variable {sz:Nat} {t:TypeId} {fs:List Nat} {w wr u:World} {g:Nat} {cs:Array Value} {bs bs':List Nat}
theorem MkSt.start (h:Blk w g t cs):MkSt sz t fs w g cs bs w:=⟨⟨cs,h,rfl,fun _ _ _=>rfl⟩,Chg.refl _ _⟩
theorem MkSt.more (h:MkSt sz t fs w g cs bs wr) (hs:∀q∈bs,q∈bs'):MkSt sz t fs w g cs bs' wr :=
 ⟨h.ex,h.chg.mono fun q hq=>by
  rcases List.mem_cons.1 hq with rfl|hq
  ·exact List.mem_cons_self ..
  ·exact List.mem_cons_of_mem _ (hs q hq)⟩
theorem MkSt.store (h:MkSt sz t fs w g cs bs wr) (i f:Nat) (hf:f∉fs) (hlt:f<sz) (hfs:∀x∈fs,x<sz) (v:Value):MkSt sz t fs w g cs bs (wr.setCell ⟨g,i * sz+f,none⟩ v):=by
 obtain ⟨ds,hb,hs,hd⟩:=h.ex
 refine ⟨⟨_,hb.set_ (i * sz+f) v,by simpa using hs,fun j x hx=>?_⟩,h.chg.setCell (by simp) _⟩
 rw [Array.getElem?_setIfInBounds,if_neg,hd j x hx]
 intro e
 have h1:(i * sz+f) % sz=f:=by rw [Nat.add_comm,Nat.add_mul_mod_self_right];exact Nat.mod_eq_of_lt hlt
 have h2:(j * sz+x) % sz=x:=by rw [Nat.add_comm,Nat.add_mul_mod_self_right];exact Nat.mod_eq_of_lt (hfs x hx)
 rw [e,h2] at h1
 exact hf (h1 ▸ hx)
theorem MkSt.grows (h:MkSt sz t fs w g cs bs wr) (k:Grows wr u):MkSt sz t fs w g cs bs u:=by
 obtain ⟨ds,hb,hs,hd⟩:=h.ex
 exact ⟨⟨ds,hb.grows k,hs,hd⟩,h.chg.trans (Chg.of_grows k)⟩
theorem MkSt.call {b:List Nat} (h:MkSt sz t fs w g cs bs wr) (k:Chg b wr u) (hb:∀q∈b,q∈bs) (hg:g∉b):MkSt sz t fs w g cs bs u:=by
 obtain ⟨ds,hbk,hs,hd⟩:=h.ex
 exact ⟨⟨ds,hbk.chg k hg,hs,hd⟩,h.chg.trans (k.mono fun q hq=>List.mem_cons_of_mem _ (hb q hq))⟩
theorem MkSt.lt (h:MkSt sz t fs w g cs bs wr):g<wr.heap.size:=by obtain ⟨ds,hb,-⟩:=h.ex;exact hb.lt
theorem MkSt.frozen (h:MkSt sz t fs w g cs bs wr):∀o,wr.frozen? ⟨g,o,none⟩=false:=by obtain ⟨ds,hb,-⟩:=h.ex;exact hb.frozen
/-- a cell that may be written -/
theorem MkSt.has (h:MkSt sz t fs w g cs bs wr) {o:Nat} (ho:o<cs.size):∃v,wr.cell? ⟨g,o,none⟩=some v:=by
 obtain ⟨ds,hb,hs,-⟩:=h.ex
 exact ⟨_,by rw [hb.cell];exact Array.getElem?_eq_getElem (by omega)⟩
/-- a header that is as it was -/
theorem MkSt.kept (h:MkSt sz t fs w g cs bs wr) {i f:Nat} {v:Value} (hf:f∈fs) (hv:cs[i * sz+f]?=some v):wr.cell? ⟨g,i * sz+f,none⟩=some v:=by
 obtain ⟨ds,hb,-,hd⟩:=h.ex
 rw [hb.cell,hd i f hf,hv]
end
def wtStr (_:ByteArray):Nat:=0
theorem wtStr_sum (xs:List ByteArray):(xs.map wtStr).sum=0:=by
 induction xs with
 | nil=>rfl
 | cons a r ih=>rw [List.map_cons,List.sum_cons,ih];rfl
theorem MkSt.store1 {t:TypeId} {w wr:World} {g:Nat} {cs:Array Value} {bs:List Nat} (h:MkSt 1 t [] w g cs bs wr) (i:Nat) (v:Value):MkSt 1 t [] w g cs bs (wr.setCell ⟨g,i,none⟩ v):=by
 have:=h.store i 0 (by simp) (by decide) (by simp) v
 simpa using this
/-- blocks of one element, apart from the row and from those before it -/
theorem part_of {g:Nat} {bss:List (List Nat)} {i:Nat} {b:List Nat} (h:(g::bss.flatten).Nodup) (hb:bss[i]?=some b):g∉b∧b.Nodup∧(∀q∈b,q∈bss.flatten)∧∀q∈b,q∉(bss.take i).flatten:=by
 obtain ⟨hg,hn⟩:=List.nodup_cons.1 h
 have hm:∀q∈b,q∈bss.flatten:=fun q hq=>List.mem_flatten.2 ⟨b,List.mem_of_getElem? hb,hq⟩
 have hlt:i<bss.length:=(List.getElem?_eq_some_iff.1 hb).1
 have hi:bss[i]=b:=(List.getElem?_eq_some_iff.1 hb).2
 have e:bss.flatten=(bss.take i).flatten++(b++(bss.drop (i+1)).flatten):=by
  rw [←hi,←List.flatten_cons,←List.drop_eq_getElem_cons hlt,←List.flatten_append,List.take_append_drop]
 rw [e,List.nodup_append] at hn
 obtain ⟨_,h2,h3⟩:=hn
 rw [List.nodup_append] at h2
 exact ⟨fun h=>hg (hm g h),h2.1,hm,fun q hq hp=>h3 q hp q (List.mem_append_left _ hq) rfl⟩
theorem part_mem {bss:List (List Nat)} {i:Nat} {b:List Nat} (hb:bss[i]?=some b):(∀q∈(bss.take i).flatten,q∈(bss.take (i+1)).flatten)∧∀q∈b,q∈(bss.take (i+1)).flatten:=by
 have e:(bss.take (i+1)).flatten=(bss.take i).flatten++b:=by
  rw [List.take_add_one,hb,List.flatten_append];simp
 rw [e]
 exact ⟨fun q hq=>List.mem_append_left _ hq,fun q hq=>List.mem_append_right _ hq⟩
theorem part_all {bss:List (List Nat)} {i:Nat}:∀q∈(bss.take i).flatten,q∈bss.flatten:=by
 intro q hq
 obtain ⟨b,hb,hq⟩:=List.mem_flatten.1 hq
 exact List.mem_flatten.2 ⟨b,List.mem_of_mem_take hb,hq⟩
/-- what a marking without its values says -/
def MarkW (wt:Nat) (k:Int) (bs:List Nat) (w:World) (e:Ending) (w':World):Prop:=∃r:Int,e=.returned (.int .i64 r)∧k≤r∧r≤k+4 * (wt:Int)∧Chg bs w w'
theorem nodup2 {b1 b2:List Nat} (h:(b1++b2).Nodup):b1.Nodup∧b2.Nodup∧(∀g∈b1,g∉b2)∧∀g∈b2,g∉b1:=by
 rw [List.nodup_append] at h
 obtain ⟨h1,h2,h3⟩:=h
 exact ⟨h1,h2,fun g hg hm=>h3 g hg g hm rfl,fun g hg hm=>h3 g hm g hg rfl⟩
end Go.Proofs.YtlnpefiipdkafaaGreatDoor
