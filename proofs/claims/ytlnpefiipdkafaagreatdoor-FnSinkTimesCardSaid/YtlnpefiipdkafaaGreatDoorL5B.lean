/-
  A drawn design.
-/
import Derived.Test.YtlnpefiipdkafaaGreatDoorHY
import Derived.Test.YtlnpefiipdkafaaGreatDoorHU
import Derived.Test.YtlnpefiipdkafaaGreatDoorHX
namespace Go.Proofs.YtlnpefiipdkafaaGreatDoor
open Go.RowKit
/-- the source, and boxes that stay -/
def Fr (bx:List (Nat×TypeId×Array Value)) (w0 w:World) (b:Nat) (u:World):Prop :=
 SrcAt w0 u b∧Chg [b] w u∧(∀q∈bx,Blk u q.1 q.2.1 q.2.2∧w.heap.size≤q.1)∧b<w.heap.size∧w0.heap.size≤w.heap.size
section
variable {bx:List (Nat×TypeId×Array Value)} {w0 w u u':World} {b:Nat}
theorem Fr.chg {ds:List Nat} (h:Fr bx w0 w b u) (c:Chg ds u u') (hd:∀g∈ds,w.heap.size≤g∧∀q∈bx,q.1≠g):Fr bx w0 w b u':=by
 obtain ⟨h1,h2,h3,h4,h5⟩:=h
 refine ⟨h1.chg c (fun hm=>by have:=(hd _ hm).1;omega) (fun g hg=>by have:=(hd g hg).1;omega),?_,fun q hq=>⟨(h3 q hq).1.chg c (fun hm=>(hd _ hm).2 q hq rfl),(h3 q hq).2⟩,h4,h5⟩
 exact ⟨c.os.trans h2.os,c.tape.trans h2.tape,c.output.trans h2.output,Nat.le_trans h2.size c.size,fun q hq hn=>(c.block q (Nat.lt_of_lt_of_le hq h2.size) (fun hm=>by have:=(hd _ hm).1;omega)).trans (h2.block q hq hn)⟩
theorem Fr.next (h:Fr bx w0 w b u) (c:Chg [b] u u') (s:SrcAt w0 u' b):Fr bx w0 w b u':=by
 obtain ⟨h1,h2,h3,h4,h5⟩:=h
 exact ⟨s,h2.trans c,fun q hq=>⟨(h3 q hq).1.chg c (by have:=(h3 q hq).2;simp;omega),(h3 q hq).2⟩,h4,h5⟩
theorem Fr.alloc (h:Fr bx w0 w b u) (o:Obj):Fr bx w0 w b (u.alloc o):=h.next ((Chg.refl _ _).alloc o) (h.1.alloc o)
theorem Fr.grows (h:Fr bx w0 w b u) (g:Grows u u'):Fr bx w0 w b u':=h.next (Chg.of_grows g) (h.1.grows g)
theorem Fr.grown {row:Option Nat} (h:Fr bx w0 w b u) (g:u.grownBy u' row) (hr:∀k,row=some k→w.heap.size≤k∧∀q∈bx,q.1≠k):Fr bx w0 w b u' :=
 h.chg (ds:=row.toList) ((Chg.refl _ _).grown g fun k e=>.inl (by rw [e];simp)) (fun q hq=>hr q (by simpa using hq))
end
theorem DSt.start {Q:Nat→Prop} {w:World} {g:Nat} {vn:Value} {ns:List ByteArray} (hi:RInstW w (.slice (some ⟨g,0,none⟩) 0 0) [] []) (hn:RStrW w vn ns []) (ho:∀k,vn.ownBlock=some k→Q k∧k<w.heap.size∧k≠g) (hg:Q g∧g<w.heap.size):DSt Q w (.slice (some ⟨g,0,none⟩) 0 0) [] vn ns:=by
 refine ⟨[],hi,hn,?_,fun q hq=>?_⟩
 ·cases e:vn.ownBlock with
  | none=>simp [Value.ownBlock]
  | some k=>simp [Value.ownBlock,(ho k e).2.2]
 ·rw [List.append_nil,List.mem_append] at hq
  rcases hq with hq|hq
  ·have:=ho q (by simpa using hq)
   exact ⟨this.1,this.2.1⟩
  ·simp [Value.ownBlock] at hq
   subst hq
   exact hg
theorem RStrW.of {w:World} {v:Value} {ns:List ByteArray} (h:w.ownsRow 0 9 1 v ns.length (ns.map Value.string)) (hz:∀s∈ns,s.size≤100):RStrW w v ns []:=by
 have hE:∀l:List ByteArray,(∀s∈l,s.size≤100)→Els 1 OStrB w (l.map Value.string) l (l.map fun _=>[]):=fun l=>by
  induction l with
  | nil=>intro _;exact Els.nil
  | cons s l ih=>intro h;exact Els.cons (es:=[_]) rfl ⟨rfl,h s (List.mem_cons_self ..),rfl⟩ (ih fun s hs=>h s (List.mem_cons_of_mem _ hs))
 have hf:(ns.map fun _=>([]:List Nat)).flatten=[]:=by
  rw [List.flatten_eq_nil_iff]
  intro l hl
  obtain ⟨_,_,rfl⟩:=List.mem_map.1 hl
  rfl
 exact ⟨_,⟨_,h,hE ns hz,by rw [hf,List.append_nil];exact own_val h⟩,hf.symm⟩
/-- what a drawn design promises -/
def DesPost (w0 w:World) (b:Nat) (e:Ending) (w':World):Prop :=
 ∃(mid:Nat) (A1:Option Addr) (n1:Nat) (A2:Option Addr) (n2:Nat) (A3:Option Addr) (n3:Nat) (xs:List InstD) (ns:List ByteArray) (ps:List PortD) (bp:List Nat),e=.returned (.agg #[.slice A1 xs.length n1,.slice A2 ns.length n2,.slice A3 ps.length n3])∧DF (fun q=>w.heap.size≤q∧q<mid) w' (.slice A1 xs.length n1) xs (.slice A2 ns.length n2) ns∧OList 3 74 OPortB w' (.slice A3 ps.length n3) ps bp∧Own mid w'.heap.size bp∧w.heap.size≤mid∧(2≤xs.length∧xs.length≤6)∧(5≤ns.length∧ns.length≤9)∧(3≤ps.length∧ps.length≤5)∧SrcAt w0 w' b∧Chg [b] w w'
theorem ORow.ports {lo:Nat} {w:World} {v:Value} {ps:List PortD} (h:w.ownsRow lo 74 3 v ps.length (ps.flatMap fun p=>[.string p.name,.int .i64 p.dir,.int .i64 p.net])) (hz:∀p∈ps,p.name.size≤100):∃bss,ORow 3 74 OPortB lo w v ps bss:=by
 have hE:∀l:List PortD,(∀p∈l,p.name.size≤100)→Els 3 OPortB w (l.flatMap fun p=>[.string p.name,.int .i64 p.dir,.int .i64 p.net]) l (l.map fun _=>[]):=fun l=>by
  induction l with
  | nil=>intro _;exact Els.nil
  | cons s l ih=>intro h;exact Els.cons (es:=[_,_,_]) rfl ⟨rfl,h s (List.mem_cons_self ..),rfl⟩ (ih fun s hs=>h s (List.mem_cons_of_mem _ hs))
 have hf:(ps.map fun _=>([]:List Nat)).flatten=[]:=by
  rw [List.flatten_eq_nil_iff]
  intro l hl
  obtain ⟨_,_,rfl⟩:=List.mem_map.1 hl
  rfl
 exact ⟨_,_,h,hE ps hz,by rw [hf,List.append_nil];exact own_val h⟩
theorem info_strB:(Tryz.prog.info? 9).map (fun i=>(i.zero,i.size))=some (some (.string .empty),1):=by kernel_rfl
theorem bytes_strB:∀i,Tryz.prog.info? 9=some i→i.bytes≤256:=by
 have h:(Tryz.prog.info? 9).map (fun i=>i.bytes)=some 16:=by kernel_rfl
 intro i hi
 rw [hi] at h
 simp at h
 omega
theorem ints12 {w:World} {g:Nat} {t:TypeId} (h:Blk w g t #[.int .i64 0,.int .i64 1,.int .i64 2,.int .i64 2,.int .i64 3,.int .i64 4,.int .i64 5,.int .i64 5,.int .i64 5,.int .i64 6,.int .i64 7,.int .i64 1]) {q:Nat} (hq:q<12):∃z:Nat,z≤7∧w.cell? ⟨g,q,none⟩=some (.int .i64 (z:Int)):=by
 rw [h.cell]
 rcases (by omega:q=0∨q=1∨q=2∨q=3∨q=4∨q=5∨q=6∨q=7∨q=8∨q=9∨q=10∨q=11) with rfl|rfl|rfl|rfl|rfl|rfl|rfl|rfl|rfl|rfl|rfl|rfl
 ·exact ⟨0,by decide,rfl⟩
 ·exact ⟨1,by decide,rfl⟩
 ·exact ⟨2,by decide,rfl⟩
 ·exact ⟨2,by decide,rfl⟩
 ·exact ⟨3,by decide,rfl⟩
 ·exact ⟨4,by decide,rfl⟩
 ·exact ⟨5,by decide,rfl⟩
 ·exact ⟨5,by decide,rfl⟩
 ·exact ⟨5,by decide,rfl⟩
 ·exact ⟨6,by decide,rfl⟩
 ·exact ⟨7,by decide,rfl⟩
 ·exact ⟨1,by decide,rfl⟩
theorem ints8p {w:World} {g:Nat} {t:TypeId} (h:Blk w g t #[.int .i64 2,.int .i64 2,.int .i64 3,.int .i64 3,.int .i64 4,.int .i64 3,.int .i64 3,.int .i64 3]) {q:Nat} (hq:q<8):∃z:Int,(2≤z∧z≤4)∧w.cell? ⟨g,q,none⟩=some (.int .i64 z):=by
 rw [h.cell]
 rcases (by omega:q=0∨q=1∨q=2∨q=3∨q=4∨q=5∨q=6∨q=7) with rfl|rfl|rfl|rfl|rfl|rfl|rfl|rfl
 ·exact ⟨2,by decide,rfl⟩
 ·exact ⟨2,by decide,rfl⟩
 ·exact ⟨3,by decide,rfl⟩
 ·exact ⟨3,by decide,rfl⟩
 ·exact ⟨4,by decide,rfl⟩
 ·exact ⟨3,by decide,rfl⟩
 ·exact ⟨3,by decide,rfl⟩
 ·exact ⟨3,by decide,rfl⟩
/-- an instance's nets so far -/
def XNets (lo:Nat) (w:World) (vx:Value) (xs:List Int):Prop:=(xs=[]∧vx=.slice none 0 0)∨(1≤xs.length∧w.ownsRow lo 2 1 vx xs.length (xs.map (Value.int .i64)))
theorem XNets.next {lo:Nat} {w w':World} {vx:Value} {xs:List Int} {ds:List Nat} (h:XNets lo w vx xs) (c:Chg ds w w') (hd:∀g∈ds,g<lo):XNets lo w' vx xs:=by
 rcases h with h|⟨h1,h2⟩
 ·exact .inl h
 ·exact .inr ⟨h1,ownsRow_chg h2 c hd⟩
/-- an instance that is being made, behind ur -/
def XSt (w0 ur:World) (b:Nat) (nm:ByteArray) (z:Int) (vx:Value) (xs:List Int) (u:World):Prop :=
 Chg [b] ur u∧SrcAt w0 u b∧Blk u ur.heap.size 72 #[.string nm,.int .i64 z,vx]∧XNets (ur.heap.size+1) u vx xs∧b<ur.heap.size
theorem XSt.next {w0 ur u u':World} {b:Nat} {nm:ByteArray} {z:Int} {vx:Value} {xs:List Int} (h:XSt w0 ur b nm z vx xs u) (c:Chg [b] u u') (s:SrcAt w0 u' b):XSt w0 ur b nm z vx xs u':=by
 obtain ⟨h1,h2,h3,h4,h5⟩:=h
 exact ⟨h1.trans c,s,h3.chg c (by simp;omega),h4.next c (fun g hg=>by simp at hg;omega),h5⟩
theorem XSt.over {w0 ur u u':World} {b:Nat} {nm:ByteArray} {z:Int} {vx:Value} {xs:List Int} (h:XSt w0 ur b nm z vx xs u) (c:Chg [] u u'):XSt w0 ur b nm z vx xs u' :=
 h.next (c.mono (by simp)) (h.2.1.chg c (by simp) (by simp))
theorem XSt.put {w0 ur u:World} {b:Nat} {nm:ByteArray} {z:Int} {vx vy:Value} {xs ys:List Int} (h:XSt w0 ur b nm z vx xs u) (hw:w0.heap.size≤ur.heap.size) (h1:1≤ys.length) (hy:u.ownsRow (ur.heap.size+1) 2 1 vy ys.length (ys.map (Value.int .i64))):XSt w0 ur b nm z vy ys (u.setCell ⟨ur.heap.size,2,none⟩ vy):=by
 obtain ⟨h2,h3,h4,h5,h6⟩:=h
 have c:Chg [ur.heap.size] u (u.setCell ⟨ur.heap.size,2,none⟩ vy):=(Chg.refl _ _).setCell (by simp) _
 exact ⟨h2.setNew (Nat.le_refl _) _,h3.chg c (by simp;omega) (fun g hg=>by simp at hg;omega),h4.setE (i:=2) rfl,.inr ⟨h1,ownsRow_chg hy c (fun g hg=>by simp at hg;omega)⟩,h6⟩
theorem row_at {w:World} {base n:Nat} {t:TypeId} {v:Value} {xs:List Value} (h:w.ownsRow base t 1 v n xs) (hn:1≤n):∃g c:Nat,v=.slice (some ⟨g,0,none⟩) n c∧n≤c∧c≤maxLen∧g<w.heap.size∧(∀o,w.frozen? ⟨g,o,none⟩=false)∧∀(j:Nat) (u:Value),xs[j]?=some u→w.cell? ⟨g,j,none⟩=some u:=by
 obtain ⟨hl,⟨_,h0⟩|⟨g,c,cur,rfl,hb,hg,h1,h2,h3,h4⟩⟩:=h
 ·omega
 ·have hB:Blk w g t cur:=hg
  refine ⟨g,c,rfl,h1,h2,hB.lt,hB.frozen,fun j u hu=>?_⟩
  rw [hB.cell]
  rw [←h4,List.getElem?_take] at hu
  split at hu
  ·simpa using hu
  ·cases hu
theorem row_news {w:World} {lo gx n c:Nat} {xs:List Value} (h:w.ownsRow lo 2 1 (.slice (some ⟨gx,0,none⟩) n c) n xs):∀(j:Nat) (u:Value),xs[j]?=some u→w.cell? ((⟨gx,0,none⟩:Addr).add j)=some u:=fun j u hu=>by
 rcases Nat.eq_zero_or_pos n with h0|h0
 ·have hl:=h.1
  rw [h0] at hl
  have hx:xs=[]:=List.eq_nil_of_length_eq_zero (by omega)
  rw [hx] at hu
  simp at hu
 ·obtain ⟨g,c',e,-,-,-,-,hc⟩:=row_at h h0
  injection e with e1
  injection e1 with e1
  injection e1 with e1
  subst e1
  have hk:=hc j u hu
  rcases j with _|j
  ·simpa [Addr.add] using hk
  ·simpa [Addr.add] using hk
theorem own_oints1 {w:World} {base g n c:Nat} {xs:List Int} (h:w.ownsRow base 2 1 (.slice (some ⟨g,0,none⟩) n c) xs.length (xs.map (Value.int .i64))) (hn:1≤xs.length):OInts w (.slice (some ⟨g,0,none⟩) n c) xs [g]:=by
 obtain ⟨_,_,bs,_,o,_⟩:=own_oints h
 obtain ⟨g',c',cs',e,eb,-⟩:=o.row hn
 injection e with e1
 injection e1 with e1
 injection e1 with e1
 subst e1
 rw [←eb]
 exact o
theorem DSt.owns {Q:Nat→Prop} {w:World} {vi vn:Value} {xs:List InstD} {ns:List ByteArray} (h:DSt Q w vi xs vn ns):∀k,vi.ownBlock=some k∨vn.ownBlock=some k→Q k∧k<w.heap.size:=fun k e=>by
 obtain ⟨r,_,_,h3⟩:=h
 rcases e with e|e
 ·exact h3.2 k (List.mem_append_right _ (List.mem_append_left _ (by rw [e];simp)))
 ·exact h3.2 k (List.mem_append_left _ (by rw [e];simp))
theorem DSt.slices {Q:Nat→Prop} {w:World} {vi vn:Value} {xs:List InstD} {ns:List ByteArray} (h:DSt Q w vi xs vn ns):(∃(A:Option Addr) (c:Nat),vi=.slice A xs.length c)∧∃(A:Option Addr) (c:Nat),vn=.slice A ns.length c:=by
 obtain ⟨r,h1,h2,_⟩:=h
 exact ⟨RW.slice h1,RW.slice h2⟩
set_option maxHeartbeats 32000000 in
set_option maxRecDepth 10000 in
theorem l05Draw_any {w0 w:World} {b:Nat} (wild:Bool) (h:SrcAt w0 w b):Calls Tryz.prog 78 #[.pointer (some ⟨b,0,none⟩),.int .i64 6,.bool wild] w (DesPost w0 w b):=by
 have hb:Hid (b<w.heap.size):=hideIt h.ge.2.2
 have HG:Hid (w0.heap.size≤w.heap.size):=hideIt h.ge.2.1.size
 have HS:=hideIt h
 clear h
 go_enter Tryz.func78,Tryz.ntmps78
 obtain ⟨iS,hiS,hzS,hsS,hbS⟩:=info_two info_strB bytes_strB
 obtain ⟨iN,hiN,hzN,hsN,hbN⟩:=info_two info_Inst bytes_Inst
 obtain ⟨iI,hiI,hzI,hsI,hbI⟩:=info_parts info_i64'
 obtain ⟨iP,hiP,hzP,hsP,hbP⟩:=info_two info_Port bytes_Port
 go_upto_region 5 with fail
 have B0:Hid (Blk ((((((w.alloc (.cells #[.slice none 0 0,.slice none 0 0,.slice none 0 0] 31)).alloc (.cells #[.string ⟨#[110,99,107]⟩,.string ⟨#[110,97]⟩,.string ⟨#[110,98]⟩] 9)).alloc (.cells #[.slice none 0 0,.slice (some ⟨(w.heap.size+1),0,none⟩) 3 3,.slice (some ⟨(w.heap.size+1+1+1),0,none⟩) 3 3] 31)).alloc (.cells #[.string ⟨#[99,107]⟩,.int .i64 1,.int .i64 0,.string ⟨#[97]⟩,.int .i64 1,.int .i64 1,.string ⟨#[98]⟩,.int .i64 1,.int .i64 2] 74)).alloc (.cells #[.int .i64 2,.int .i64 2,.int .i64 3,.int .i64 3,.int .i64 4,.int .i64 3,.int .i64 3,.int .i64 3] 2)).alloc (.cells #[] 72)) w.heap.size 31 #[.slice none 0 0,.slice none 0 0,.slice none 0 0]):=hideIt (by have e:w.heap.size=w.heap.size:=(by simp);have h:=Blk.new w 31 #[.slice none 0 0,.slice none 0 0,.slice none 0 0];rw [e] at h;exact h.grows (by repeat (first|with_reducible exact Grows.refl _|with_reducible refine Grows.alloc ?_ _)))
 have B1:Hid (Blk ((((((w.alloc (.cells #[.slice none 0 0,.slice none 0 0,.slice none 0 0] 31)).alloc (.cells #[.string ⟨#[110,99,107]⟩,.string ⟨#[110,97]⟩,.string ⟨#[110,98]⟩] 9)).alloc (.cells #[.slice none 0 0,.slice (some ⟨(w.heap.size+1),0,none⟩) 3 3,.slice (some ⟨(w.heap.size+1+1+1),0,none⟩) 3 3] 31)).alloc (.cells #[.string ⟨#[99,107]⟩,.int .i64 1,.int .i64 0,.string ⟨#[97]⟩,.int .i64 1,.int .i64 1,.string ⟨#[98]⟩,.int .i64 1,.int .i64 2] 74)).alloc (.cells #[.int .i64 2,.int .i64 2,.int .i64 3,.int .i64 3,.int .i64 4,.int .i64 3,.int .i64 3,.int .i64 3] 2)).alloc (.cells #[] 72)) (w.heap.size+1) 9 #[.string ⟨#[110,99,107]⟩,.string ⟨#[110,97]⟩,.string ⟨#[110,98]⟩]):=hideIt (by have e:(w.alloc (.cells #[.slice none 0 0,.slice none 0 0,.slice none 0 0] 31)).heap.size=(w.heap.size+1):=(by simp);have h:=Blk.new (w.alloc (.cells #[.slice none 0 0,.slice none 0 0,.slice none 0 0] 31)) 9 #[.string ⟨#[110,99,107]⟩,.string ⟨#[110,97]⟩,.string ⟨#[110,98]⟩];rw [e] at h;exact h.grows (by repeat (first|with_reducible exact Grows.refl _|with_reducible refine Grows.alloc ?_ _)))
 have B2:Hid (Blk ((((((w.alloc (.cells #[.slice none 0 0,.slice none 0 0,.slice none 0 0] 31)).alloc (.cells #[.string ⟨#[110,99,107]⟩,.string ⟨#[110,97]⟩,.string ⟨#[110,98]⟩] 9)).alloc (.cells #[.slice none 0 0,.slice (some ⟨(w.heap.size+1),0,none⟩) 3 3,.slice (some ⟨(w.heap.size+1+1+1),0,none⟩) 3 3] 31)).alloc (.cells #[.string ⟨#[99,107]⟩,.int .i64 1,.int .i64 0,.string ⟨#[97]⟩,.int .i64 1,.int .i64 1,.string ⟨#[98]⟩,.int .i64 1,.int .i64 2] 74)).alloc (.cells #[.int .i64 2,.int .i64 2,.int .i64 3,.int .i64 3,.int .i64 4,.int .i64 3,.int .i64 3,.int .i64 3] 2)).alloc (.cells #[] 72)) (w.heap.size+1+1) 31 #[.slice none 0 0,.slice (some ⟨(w.heap.size+1),0,none⟩) 3 3,.slice (some ⟨(w.heap.size+1+1+1),0,none⟩) 3 3]):=hideIt (by have e:((w.alloc (.cells #[.slice none 0 0,.slice none 0 0,.slice none 0 0] 31)).alloc (.cells #[.string ⟨#[110,99,107]⟩,.string ⟨#[110,97]⟩,.string ⟨#[110,98]⟩] 9)).heap.size=(w.heap.size+1+1):=(by simp);have h:=Blk.new ((w.alloc (.cells #[.slice none 0 0,.slice none 0 0,.slice none 0 0] 31)).alloc (.cells #[.string ⟨#[110,99,107]⟩,.string ⟨#[110,97]⟩,.string ⟨#[110,98]⟩] 9)) 31 #[.slice none 0 0,.slice (some ⟨(w.heap.size+1),0,none⟩) 3 3,.slice (some ⟨(w.heap.size+1+1+1),0,none⟩) 3 3];rw [e] at h;exact h.grows (by repeat (first|with_reducible exact Grows.refl _|with_reducible refine Grows.alloc ?_ _)))
 have B3:Hid (Blk ((((((w.alloc (.cells #[.slice none 0 0,.slice none 0 0,.slice none 0 0] 31)).alloc (.cells #[.string ⟨#[110,99,107]⟩,.string ⟨#[110,97]⟩,.string ⟨#[110,98]⟩] 9)).alloc (.cells #[.slice none 0 0,.slice (some ⟨(w.heap.size+1),0,none⟩) 3 3,.slice (some ⟨(w.heap.size+1+1+1),0,none⟩) 3 3] 31)).alloc (.cells #[.string ⟨#[99,107]⟩,.int .i64 1,.int .i64 0,.string ⟨#[97]⟩,.int .i64 1,.int .i64 1,.string ⟨#[98]⟩,.int .i64 1,.int .i64 2] 74)).alloc (.cells #[.int .i64 2,.int .i64 2,.int .i64 3,.int .i64 3,.int .i64 4,.int .i64 3,.int .i64 3,.int .i64 3] 2)).alloc (.cells #[] 72)) (w.heap.size+1+1+1) 74 #[.string ⟨#[99,107]⟩,.int .i64 1,.int .i64 0,.string ⟨#[97]⟩,.int .i64 1,.int .i64 1,.string ⟨#[98]⟩,.int .i64 1,.int .i64 2]):=hideIt (by have e:(((w.alloc (.cells #[.slice none 0 0,.slice none 0 0,.slice none 0 0] 31)).alloc (.cells #[.string ⟨#[110,99,107]⟩,.string ⟨#[110,97]⟩,.string ⟨#[110,98]⟩] 9)).alloc (.cells #[.slice none 0 0,.slice (some ⟨(w.heap.size+1),0,none⟩) 3 3,.slice (some ⟨(w.heap.size+1+1+1),0,none⟩) 3 3] 31)).heap.size=(w.heap.size+1+1+1):=(by simp);have h:=Blk.new (((w.alloc (.cells #[.slice none 0 0,.slice none 0 0,.slice none 0 0] 31)).alloc (.cells #[.string ⟨#[110,99,107]⟩,.string ⟨#[110,97]⟩,.string ⟨#[110,98]⟩] 9)).alloc (.cells #[.slice none 0 0,.slice (some ⟨(w.heap.size+1),0,none⟩) 3 3,.slice (some ⟨(w.heap.size+1+1+1),0,none⟩) 3 3] 31)) 74 #[.string ⟨#[99,107]⟩,.int .i64 1,.int .i64 0,.string ⟨#[97]⟩,.int .i64 1,.int .i64 1,.string ⟨#[98]⟩,.int .i64 1,.int .i64 2];rw [e] at h;exact h.grows (by repeat (first|with_reducible exact Grows.refl _|with_reducible refine Grows.alloc ?_ _)))
 have B4:Hid (Blk ((((((w.alloc (.cells #[.slice none 0 0,.slice none 0 0,.slice none 0 0] 31)).alloc (.cells #[.string ⟨#[110,99,107]⟩,.string ⟨#[110,97]⟩,.string ⟨#[110,98]⟩] 9)).alloc (.cells #[.slice none 0 0,.slice (some ⟨(w.heap.size+1),0,none⟩) 3 3,.slice (some ⟨(w.heap.size+1+1+1),0,none⟩) 3 3] 31)).alloc (.cells #[.string ⟨#[99,107]⟩,.int .i64 1,.int .i64 0,.string ⟨#[97]⟩,.int .i64 1,.int .i64 1,.string ⟨#[98]⟩,.int .i64 1,.int .i64 2] 74)).alloc (.cells #[.int .i64 2,.int .i64 2,.int .i64 3,.int .i64 3,.int .i64 4,.int .i64 3,.int .i64 3,.int .i64 3] 2)).alloc (.cells #[] 72)) (w.heap.size+1+1+1+1) 2 #[.int .i64 2,.int .i64 2,.int .i64 3,.int .i64 3,.int .i64 4,.int .i64 3,.int .i64 3,.int .i64 3]):=hideIt (by have e:((((w.alloc (.cells #[.slice none 0 0,.slice none 0 0,.slice none 0 0] 31)).alloc (.cells #[.string ⟨#[110,99,107]⟩,.string ⟨#[110,97]⟩,.string ⟨#[110,98]⟩] 9)).alloc (.cells #[.slice none 0 0,.slice (some ⟨(w.heap.size+1),0,none⟩) 3 3,.slice (some ⟨(w.heap.size+1+1+1),0,none⟩) 3 3] 31)).alloc (.cells #[.string ⟨#[99,107]⟩,.int .i64 1,.int .i64 0,.string ⟨#[97]⟩,.int .i64 1,.int .i64 1,.string ⟨#[98]⟩,.int .i64 1,.int .i64 2] 74)).heap.size=(w.heap.size+1+1+1+1):=(by simp);have h:=Blk.new ((((w.alloc (.cells #[.slice none 0 0,.slice none 0 0,.slice none 0 0] 31)).alloc (.cells #[.string ⟨#[110,99,107]⟩,.string ⟨#[110,97]⟩,.string ⟨#[110,98]⟩] 9)).alloc (.cells #[.slice none 0 0,.slice (some ⟨(w.heap.size+1),0,none⟩) 3 3,.slice (some ⟨(w.heap.size+1+1+1),0,none⟩) 3 3] 31)).alloc (.cells #[.string ⟨#[99,107]⟩,.int .i64 1,.int .i64 0,.string ⟨#[97]⟩,.int .i64 1,.int .i64 1,.string ⟨#[98]⟩,.int .i64 1,.int .i64 2] 74)) 2 #[.int .i64 2,.int .i64 2,.int .i64 3,.int .i64 3,.int .i64 4,.int .i64 3,.int .i64 3,.int .i64 3];rw [e] at h;exact h.grows (by repeat (first|with_reducible exact Grows.refl _|with_reducible refine Grows.alloc ?_ _)))
 have ER:Hid (RInstW ((((((w.alloc (.cells #[.slice none 0 0,.slice none 0 0,.slice none 0 0] 31)).alloc (.cells #[.string ⟨#[110,99,107]⟩,.string ⟨#[110,97]⟩,.string ⟨#[110,98]⟩] 9)).alloc (.cells #[.slice none 0 0,.slice (some ⟨(w.heap.size+1),0,none⟩) 3 3,.slice (some ⟨(w.heap.size+1+1+1),0,none⟩) 3 3] 31)).alloc (.cells #[.string ⟨#[99,107]⟩,.int .i64 1,.int .i64 0,.string ⟨#[97]⟩,.int .i64 1,.int .i64 1,.string ⟨#[98]⟩,.int .i64 1,.int .i64 2] 74)).alloc (.cells #[.int .i64 2,.int .i64 2,.int .i64 3,.int .i64 3,.int .i64 4,.int .i64 3,.int .i64 3,.int .i64 3] 2)).alloc (.cells #[] 72)) (.slice (some ⟨(w.heap.size+1+1+1+1+1),0,none⟩) 0 0) [] []):=hideIt ⟨[],by
  have e:(((((w.alloc (.cells #[.slice none 0 0,.slice none 0 0,.slice none 0 0] 31)).alloc (.cells #[.string ⟨#[110,99,107]⟩,.string ⟨#[110,97]⟩,.string ⟨#[110,98]⟩] 9)).alloc (.cells #[.slice none 0 0,.slice (some ⟨(w.heap.size+1),0,none⟩) 3 3,.slice (some ⟨(w.heap.size+1+1+1),0,none⟩) 3 3] 31)).alloc (.cells #[.string ⟨#[99,107]⟩,.int .i64 1,.int .i64 0,.string ⟨#[97]⟩,.int .i64 1,.int .i64 1,.string ⟨#[98]⟩,.int .i64 1,.int .i64 2] 74)).alloc (.cells #[.int .i64 2,.int .i64 2,.int .i64 3,.int .i64 3,.int .i64 4,.int .i64 3,.int .i64 3,.int .i64 3] 2)).heap.size=(w.heap.size+1+1+1+1+1):=by simp
  have h:=ORow.empty (sz:=3) (t:=72) (O:=OInstB) (α:=InstD) (w:=(((((w.alloc (.cells #[.slice none 0 0,.slice none 0 0,.slice none 0 0] 31)).alloc (.cells #[.string ⟨#[110,99,107]⟩,.string ⟨#[110,97]⟩,.string ⟨#[110,98]⟩] 9)).alloc (.cells #[.slice none 0 0,.slice (some ⟨(w.heap.size+1),0,none⟩) 3 3,.slice (some ⟨(w.heap.size+1+1+1),0,none⟩) 3 3] 31)).alloc (.cells #[.string ⟨#[99,107]⟩,.int .i64 1,.int .i64 0,.string ⟨#[97]⟩,.int .i64 1,.int .i64 1,.string ⟨#[98]⟩,.int .i64 1,.int .i64 2] 74)).alloc (.cells #[.int .i64 2,.int .i64 2,.int .i64 3,.int .i64 3,.int .i64 4,.int .i64 3,.int .i64 3,.int .i64 3] 2))) (Nat.zero_le _)
  rw [e] at h
  exact h,rfl⟩
 have ZU:Hid (((((((w.alloc (.cells #[.slice none 0 0,.slice none 0 0,.slice none 0 0] 31)).alloc (.cells #[.string ⟨#[110,99,107]⟩,.string ⟨#[110,97]⟩,.string ⟨#[110,98]⟩] 9)).alloc (.cells #[.slice none 0 0,.slice (some ⟨(w.heap.size+1),0,none⟩) 3 3,.slice (some ⟨(w.heap.size+1+1+1),0,none⟩) 3 3] 31)).alloc (.cells #[.string ⟨#[99,107]⟩,.int .i64 1,.int .i64 0,.string ⟨#[97]⟩,.int .i64 1,.int .i64 1,.string ⟨#[98]⟩,.int .i64 1,.int .i64 2] 74)).alloc (.cells #[.int .i64 2,.int .i64 2,.int .i64 3,.int .i64 3,.int .i64 4,.int .i64 3,.int .i64 3,.int .i64 3] 2)).alloc (.cells #[] 72)).heap.size=(w.heap.size+1+1+1+1+1+1)):=hideIt (by simp)
 refine at_c (fun u=>Fr [(w.heap.size,31,#[.slice none 0 0,.slice none 0 0,.slice none 0 0]),((w.heap.size+1),9,#[.string ⟨#[110,99,107]⟩,.string ⟨#[110,97]⟩,.string ⟨#[110,98]⟩]),((w.heap.size+1+1),31,#[.slice none 0 0,.slice (some ⟨(w.heap.size+1),0,none⟩) 3 3,.slice (some ⟨(w.heap.size+1+1+1),0,none⟩) 3 3]),((w.heap.size+1+1+1),74,#[.string ⟨#[99,107]⟩,.int .i64 1,.int .i64 0,.string ⟨#[97]⟩,.int .i64 1,.int .i64 1,.string ⟨#[98]⟩,.int .i64 1,.int .i64 2]),((w.heap.size+1+1+1+1),2,#[.int .i64 2,.int .i64 2,.int .i64 3,.int .i64 3,.int .i64 4,.int .i64 3,.int .i64 3,.int .i64 3])] w0 w b u∧RInstW u (.slice (some ⟨(w.heap.size+1+1+1+1+1),0,none⟩) 0 0) [] []∧u.heap.size=(w.heap.size+1+1+1+1+1+1)) ⟨⟨HS.out.grows (by repeat (first|with_reducible exact Grows.refl _|with_reducible refine Grows.alloc ?_ _)),(Chg.of_grows (by repeat (first|with_reducible exact Grows.refl _|with_reducible refine Grows.alloc ?_ _))),fun q hq=>?_,hb.out,HG.out⟩,ER.out,ZU.out⟩ (fun u5 hu=>?_)
 ·simp only [List.mem_cons,List.not_mem_nil,or_false] at hq
  rcases hq with rfl|rfl|rfl|rfl|rfl
  ·exact ⟨B0.out,by dsimp only;omega⟩
  ·exact ⟨B1.out,by dsimp only;omega⟩
  ·exact ⟨B2.out,by dsimp only;omega⟩
  ·exact ⟨B3.out,by dsimp only;omega⟩
  ·exact ⟨B4.out,by dsimp only;omega⟩
 clear B0 B1 B2 B3 B4 ER ZU
 obtain ⟨f5,r5,z5⟩:=hu
 have FR:=hideIt f5
 have RI5:=hideIt r5
 have Z5:=hideIt z5
 clear f5 r5 z5
 have own0:Hid ((u5.alloc (.cells #[] 9)).ownsRow 0 9 1 (.slice (some ⟨u5.heap.size,0,none⟩) 0 0) 0 []):=hideIt ⟨rfl,.inr ⟨_,0,#[],rfl,Nat.zero_le _,Blk.new u5 _ _,Nat.le_refl _,Nat.zero_le _,rfl,rfl⟩⟩
 have KD:=hideIt (FR.out.2.2.1 ((w.heap.size+1+1),31,#[.slice none 0 0,.slice (some ⟨(w.heap.size+1),0,none⟩) 3 3,.slice (some ⟨(w.heap.size+1+1+1),0,none⟩) 3 3]) (by simp)).1
 have KN:=hideIt (FR.out.2.2.1 ((w.heap.size+1),9,#[.string ⟨#[110,99,107]⟩,.string ⟨#[110,97]⟩,.string ⟨#[110,98]⟩]) (by simp)).1
 have NEWS:Hid (∀(j:Nat) (u:Value),[Value.string ⟨#[110,99,107]⟩,.string ⟨#[110,97]⟩,.string ⟨#[110,98]⟩][j]?=some u→(u5.alloc (.cells #[] 9)).cell? ((⟨(w.heap.size+1),0,none⟩:Addr).add j)=some u):=hideIt (fun j u hj=>by
  have h:=(KN.out.grows ((Grows.refl u5).alloc (.cells #[] 9))).cell j
  rcases j with _|j
  ·simpa [Addr.add,h] using hj
  ·simpa [Addr.add,h] using hj)
 have fD:=KD.out.frozen
 have lD:=KD.out.lt
 have d0:=KD.out.cell 0
 have d1:=KD.out.cell 1
 have d2:=KD.out.cell 2
 simp at d0 d1 d2
 go_wp2_with (at_builtin;go_loud (refine wpList_append_own_at _ rfl _ _ 28 rfl 0 9 iS (.string .empty) 1 iS.bytes Tryz.underlying28 hiS hzS hsS rfl rfl (by decide) (.slice (some ⟨u5.heap.size,0,none⟩) 0 0) 0 [] rfl own0.out ⟨(w.heap.size+1),0,none⟩ 3 3 [.string ⟨#[110,99,107]⟩,.string ⟨#[110,97]⟩,.string ⟨#[110,98]⟩] rfl rfl NEWS.out (by intro u hu;simp at hu;rcases hu with rfl|rfl|rfl<;>rfl) (by decide) (by omega) (Nat.zero_le _) ?_))
 intro v6 u6 hrow hgrow hnil hat
 have FR6:=hideIt ((FR.out.alloc (.cells #[] 9)).grown hgrow (fun k e=>by
  have e':u5.heap.size=k:=by injection e
  subst e'
  have:=Z5.out
  refine ⟨by omega,fun q hq=>?_⟩
  simp only [List.mem_cons,List.not_mem_nil,or_false] at hq
  rcases hq with rfl|rfl|rfl|rfl|rfl<;>(dsimp only;omega)))
 have DS:Hid (DSt (fun q=>(w.heap.size+1+1+1+1)<q) u6 (.slice (some ⟨(w.heap.size+1+1+1+1+1),0,none⟩) 0 0) [] v6 [⟨#[110,99,107]⟩,⟨#[110,97]⟩,⟨#[110,98]⟩]):=hideIt (by
  refine DSt.start ?_ (RStrW.of hrow (by decide)) (fun k e=>?_) ?_
  ·refine RW.keep RI5.out (fun q hq=>?_) (fun _ _ _ h g=>h.same g)
   simp [Value.ownBlock] at hq
   subst hq
   have:=Z5.out
   exact (hgrow.block _ (by simp;omega) (by simp [Value.ownBlock];omega)).trans (Below.block ((Grows.refl u5).alloc (.cells #[] 9)) _ (by omega))
  ·have h1:=hrow.lt k e
   have:=Z5.out
   have h2:k=u5.heap.size∨k=u5.heap.size+1:=by
    rcases hat with h|h
    ·rw [e] at h;injection h with h;exact .inl h
    ·rw [e] at h;injection h with h;exact .inr h
   exact ⟨by omega,h1.2,by omega⟩
  ·have:=Z5.out
   have h1:=hgrow.size
   simp at h1
   exact ⟨by omega,by omega⟩)
 obtain ⟨A6,c6,ev⟩:=own_slice hrow
 subst ev
 clear hrow hgrow hnil hat FR RI5 Z5 own0 KD KN NEWS fD lD d0 d1 d2
 go_wp2_with fail
 refine (l01Next_any (w0:=w0) 5 FR6.out.1).mono ?_
 rintro e u7 ⟨r,rfl,ra,rb,h_,c_⟩
 have rc:=rb (by omega)
 have NQ:Hid (∀q∈[b],¬(fun q=>(w.heap.size+1+1+1+1)<q) q):=hideIt (fun q hq=>by simp at hq;subst hq;have:=hb.out;omega)
 have FR:=hideIt (FR6.out.next c_ h_)
 have DSX:=hideIt (DS.out.next c_ NQ.out)
 have ew:IntKind.i64.wrap (2+r)=2+r:=IntWalk.i64_in _ (by omega)
 clear rb h_ c_ DS FR6 HS
 go_wp2
 go_loopw [9,10,11,12,13,14,15] (fun iv nv kv s12 s13 s14 s15 wr=>∃(vi vn:Value) (xs:List InstD) (ns:List ByteArray) (k:Int),vi=iv∧vn=nv∧kv=.int .i64 k∧(0≤k∧(xs.length:Int)+k≤6∧2≤(xs.length:Int)+k)∧Hid (ns.length=xs.length+3)∧Hid (Fr [(w.heap.size,31,#[.slice none 0 0,.slice none 0 0,.slice none 0 0]),((w.heap.size+1),9,#[.string ⟨#[110,99,107]⟩,.string ⟨#[110,97]⟩,.string ⟨#[110,98]⟩]),((w.heap.size+1+1),31,#[.slice none 0 0,.slice (some ⟨(w.heap.size+1),0,none⟩) 3 3,.slice (some ⟨(w.heap.size+1+1+1),0,none⟩) 3 3]),((w.heap.size+1+1+1),74,#[.string ⟨#[99,107]⟩,.int .i64 1,.int .i64 0,.string ⟨#[97]⟩,.int .i64 1,.int .i64 1,.string ⟨#[98]⟩,.int .i64 1,.int .i64 2]),((w.heap.size+1+1+1+1),2,#[.int .i64 2,.int .i64 2,.int .i64 3,.int .i64 3,.int .i64 4,.int .i64 3,.int .i64 3,.int .i64 3])] w0 w b wr)∧Hid (DSt (fun q=>(w.heap.size+1+1+1+1)<q) wr vi xs vn ns)) (fun _ _ kv _ _ _ _ _=>(intOf kv).toNat)
 case atStart=>exact ⟨_,_,[],_,_,rfl,rfl,rfl,⟨by omega,by simp;omega,by simp;omega⟩,hideIt rfl,FR,DSX⟩
 case round =>
  clear FR DSX ew ra rc
  obtain ⟨vi,vn,xs,ns,k,rfl,rfl,rfl,⟨k0,k1,k2⟩,NL,FR,DS⟩:=hrel
  by_cases hk:0<k
  ·obtain ⟨⟨Ai,ci,rfl⟩,An,cn,rfl⟩:=DS.out.slices
   go_wp2_with fail
   refine (l01Next_any (w0:=w0) 12 (FR.out.alloc _).1).mono ?_
   rintro e u1 ⟨q_,rfl,qa,qb,h_,c_⟩
   have qc:=qb (by omega)
   obtain ⟨q,rfl⟩:∃q:Nat,q_=(q:Int):=⟨q_.toNat,by omega⟩
   have q12:(q:Int)<12:=qc
   have BB:=(Blk.new wr 2 #[.int .i64 0,.int .i64 1,.int .i64 2,.int .i64 2,.int .i64 3,.int .i64 4,.int .i64 5,.int .i64 5,.int .i64 5,.int .i64 6,.int .i64 7,.int .i64 1]).chg c_ (by have:=FR.out.2.1.size;have:=FR.out.2.2.2.1;simp;omega)
   obtain ⟨z,z7,hz⟩:=ints12 BB (by omega:q<12)
   have FR1:=hideIt ((FR.out.alloc _).next c_ h_)
   have DS1:=hideIt ((DS.out.next ((Chg.refl [b] wr).alloc _) NQ.out).next c_ NQ.out)
   clear qb h_ c_ qa qc BB FR DS
   go_wp2_with fail
   refine (num_any xs.length (by omega) _).mono ?_
   rintro e ur ⟨rfl,g2⟩
   have FR2:=hideIt (FR1.out.grows g2)
   have DS2:=hideIt (DS1.out.next (Chg.of_grows (bs:=[]) g2) (by simp))
   obtain ⟨sn,hsn⟩:∃sn,sn=decB xs.length:=⟨_,rfl⟩
   have sz:sn.size≤16:=by rw [hsn];exact (decB_size (by omega)).1
   rw [←hsn]
   have szn:¬9223372036854775807<1+sn.size:=by omega
   obtain ⟨nm,hnm⟩:∃nm:ByteArray,nm=⟨#[117]⟩++sn:=⟨_,rfl⟩
   have nmz:nm.size≤17:=by rw [hnm,ByteArray.size_append];show 1+sn.size≤17;omega
   have NMH:=hideIt hnm
   clear g2 FR1 DS1 hsn hnm hz
   go_upto_region 11 with fail
   rw [←NMH.out]
   refine at_c (fun u=>XSt w0 ur b nm z (.slice none 0 0) [] u) ⟨(Chg.refl _ _).alloc _,FR2.out.1.alloc _,Blk.new _ _ _,.inl ⟨rfl,rfl⟩,FR2.out.1.ge.2.2⟩ (fun ux hu=>?_)
   have XS:=hideIt hu
   obtain ⟨pc,⟨pc2,pc4⟩,hpc⟩:=ints8p (FR2.out.2.2.1 ((w.heap.size+1+1+1+1),2,#[.int .i64 2,.int .i64 2,.int .i64 3,.int .i64 3,.int .i64 4,.int .i64 3,.int .i64 3,.int .i64 3]) (by simp)).1 (by omega:z<8)
   have PCH:Hid (∀u,Chg [b] ur u→u.cell? ⟨(w.heap.size+1+1+1+1),z,none⟩=some (.int .i64 pc)):=hideIt (fun u c=>c.cell hpc (by have:=hb.out;simp;omega))
   have z8:(z:Int)<8:=by omega
   have WUR:Hid (w0.heap.size≤ur.heap.size):=hideIt FR2.out.1.ge.2.1.size
   have ew:IntKind.i64.wrap (pc - 1)=pc - 1:=IntWalk.i64_in _ (by omega)
   have nl:ns.length≤9∧3≤ns.length:=by have:=NL.out;omega
   have ew2:IntKind.i64.wrap ((ns.length:Int) - 1)=(ns.length:Int) - 1:=IntWalk.i64_in _ (by omega)
   clear hu hpc
   go_wp2
   go_loopw [14,15] (fun pv s15 wq=>∃(j:Nat) (vx:Value) (Lx:List Int),pv=.int .i64 (j:Int)∧j≤3∧Hid (Lx.length=j)∧Hid (XSt w0 ur b nm z vx Lx wq)) (fun pv _ _=>3 - (intOf pv).toNat)
   case atStart=>exact ⟨0,_,[],rfl,by omega,hideIt rfl,XS⟩
   case round =>
    clear XS
    obtain ⟨j,vx,Lx,rfl,j3,LL,XS⟩:=hrel
    have hpc:=PCH.out _ XS.out.1
    by_cases hj:(j:Int)<pc - 1
    ·go_wp2_with fail
     refine (l01Next_any (w0:=w0) ((ns.length:Int) - 1) XS.out.2.1).mono ?_
     rintro e w5 ⟨r1,rfl,r1a,r1b,h_,c_⟩
     replace XS:=hideIt (XS.out.next c_ h_)
     have r1c:=r1b (by omega)
     have ew3:IntKind.i64.wrap (1+r1)=1+r1:=IntWalk.i64_in _ (by omega)
     clear h_ c_ r1b hpc
     go_wp2_with fail
     refine (l01Next_any (w0:=w0) 3 XS.out.2.1).mono ?_
     rintro e w6 ⟨r2,rfl,r2a,r2b,h_,c_⟩
     replace XS:=hideIt (XS.out.next c_ h_)
     clear h_ c_ r2b
     go_upto_if 68 with fail
     go_cut [15] (fun s15 wx=>∃zn:Int,s15=.int .i64 zn∧Hid (XSt w0 ur b nm z vx Lx wx))
     case first =>
      by_cases h0:r2=0
      ·subst h0
       go_wp2_with fail
       go_meet
       exact ⟨_,rfl,XS⟩
      ·have h02:(r2==0)=false:=by simpa using h0
       go_wp2_with fail
       go_meet
       exact ⟨_,rfl,XS⟩
     clear XS
     obtain ⟨zn,rfl,XS⟩:=hcut
     obtain ⟨w7,rfl⟩:∃y:World,y=wc:=⟨_,rfl⟩
     go_upto_region 17 with fail
     go_cut [77] (fun s77 wx=>∃t:Bool,s77=.bool t∧Hid (XSt w0 ur b nm z vx Lx wx))
     case first =>
      by_cases h5:5≤z
      ·have h5i:(5:Int)≤(z:Int):=by omega
       by_cases h1:j=1
       ·subst h1
        go_wp2_with fail
        go_meet
        exact ⟨_,rfl,XS⟩
       ·have h1i:((j:Int)==1)=false:=by simp;omega
        go_wp2_with fail
        go_meet
        exact ⟨_,rfl,XS⟩
      ·have h5i:¬(5:Int)≤(z:Int):=by omega
       go_wp2_with fail
       go_meet
       exact ⟨_,rfl,XS⟩
     clear XS
     obtain ⟨t,rfl,XS⟩:=hcut
     obtain ⟨w9,rfl⟩:∃y:World,y=wc:=⟨_,rfl⟩
     go_upto_if 77 with fail
     go_cut [15] (fun s15 wx=>∃zn:Int,s15=.int .i64 zn∧Hid (XSt w0 ur b nm z vx Lx wx))
     case first =>
      cases t
      all_goals
       go_wp2_with fail
       go_meet
       exact ⟨_,rfl,XS⟩
     clear XS
     obtain ⟨zm,rfl,XS⟩:=hcut
     obtain ⟨wy,rfl⟩:∃y:World,y=wc:=⟨_,rfl⟩
     have KX:=hideIt XS.out.2.2.1
     have fX:=KX.out.frozen
     have lX:=KX.out.lt
     have x0:=KX.out.cell 0
     have x1:=KX.out.cell 1
     have x2:=KX.out.cell 2
     simp at x0 x1 x2
     have zx:ur.heap.size+1≤wy.heap.size:=lX
     have own0:Hid ((wy.alloc (.cells #[] 2)).ownsRow (ur.heap.size+1) 2 1 (.slice (some ⟨wy.heap.size,0,none⟩) 0 0) 0 []):=hideIt ⟨rfl,.inr ⟨_,0,#[],rfl,zx,Blk.new wy _ _,Nat.le_refl _,Nat.zero_le _,rfl,rfl⟩⟩
     rcases XS.out.2.2.2.1 with ⟨hL,hv⟩|⟨hL,hv⟩
     ·subst hL hv
      have NEW1:Hid (∀(j:Nat) (u:Value),[Value.int .i64 (zm)][j]?=some u→((wy.alloc (.cells #[] 2)).alloc (.cells #[.int .i64 (zm)] 2)).cell? ((⟨wy.heap.size+1,0,none⟩:Addr).add j)=some u):=hideIt (by
       have h:=cells_new (wy.alloc (.cells #[] 2)) #[.int .i64 (zm)] 2
       rw [show (wy.alloc (.cells #[] 2)).heap.size=wy.heap.size+1 by simp] at h
       exact h)
      go_wp2_with (at_builtin;go_loud (refine wpList_append_own_at _ rfl _ _ 39 rfl (ur.heap.size+1) 2 iI (.int .i64 0) 1 8 Tryz.underlying39 hiI hzI hsI hbI rfl (by decide) (.slice (some ⟨wy.heap.size,0,none⟩) 0 0) 0 [] rfl (own0.out.alloc _) ⟨(wy.heap.size+1),0,none⟩ 1 1 [.int .i64 (zm)] rfl rfl NEW1.out (by intro u hu;simp at hu;subst hu;rfl) (by unfold maxLen;omega) (by omega) (by simp;omega) ?_))
      intro v9 w9 hrow hgrow hnil hat
      have cc:Chg [] wy w9:=(((Chg.refl [] _).alloc _).alloc _).grown hgrow (fun k e=>.inr (Nat.le_of_eq (by injection e)))
      have XS9:=hideIt (XS.out.over cc)
      have RW9:Hid (w9.ownsRow (ur.heap.size+1) 2 1 v9 (([]:List Int)++[(zm:Int)]).length ((([]:List Int)++[(zm:Int)]).map (Value.int .i64))):=hideIt (by rw [List.map_append,List.length_append];exact hrow)
      obtain ⟨A9,c9,ev⟩:=own_slice RW9.out
      have ev2:v9=.slice A9 (0+1) c9:=by rw [ev,List.length_append];rfl
      clear ev
      subst ev2
      have XSP:=hideIt (XS9.out.put WUR.out (by simp) RW9.out)
      clear hrow hgrow hnil hat cc own0 XS zx
      clear fX lX x0 x1 x2 KX
      have KX:=hideIt XS9.out.2.2.1
      have fX:=KX.out.frozen
      have lX:=KX.out.lt
      have x0:=KX.out.cell 0
      have x1:=KX.out.cell 1
      have x2:=KX.out.cell 2
      simp at x0 x1 x2
      go_wp2
      go_roundw
      case rel=>exact ⟨j+1,_,([]:List Int)++[zm],by go_num,by omega,hideIt (by have:=LL.out;simp at this ⊢;omega),XSP⟩
      case measure=>simp [intOf];omega
     ·have hj8:Lx.length≤4:=by have:=LL.out;omega
      obtain ⟨gx,cx,ev,l1,l2,lg,-,-⟩:=row_at hv hL
      subst ev
      have HV:=hideIt hv
      have NEWS:=hideIt (row_news (hv.alloc (.cells #[] 2)))
      clear hv
      go_wp2_with (at_builtin;go_loud (refine wpList_append_own_at _ rfl _ _ 39 rfl (ur.heap.size+1) 2 iI (.int .i64 0) 1 8 Tryz.underlying39 hiI hzI hsI hbI rfl (by decide) (.slice (some ⟨wy.heap.size,0,none⟩) 0 0) 0 [] rfl own0.out ⟨gx,0,none⟩ Lx.length cx (Lx.map (Value.int .i64)) rfl (by simp) NEWS.out (by intro u hu;obtain ⟨x,-,rfl⟩:=List.mem_map.1 hu;rfl) (by unfold maxLen;omega) (by omega) (by simp;omega) ?_))
      intro v8 w8 hrow8 hgrow8 hnil8 hat8
      have c8:Chg [] wy w8:=((Chg.refl [] _).alloc _).grown hgrow8 (fun k e=>.inr (Nat.le_of_eq (by injection e)))
      have own8:=hideIt hrow8
      obtain ⟨A8,k8,ev⟩:=own_slice hrow8
      subst ev
      have lo8:=hideIt (own_ge hrow8)
      have XS8:=hideIt (XS.out.over c8)
      have hb8:Hid (∀k,(Value.slice A8 Lx.length k8).ownBlock=some k→wy.heap.size≤k):=hideIt (fun k e=>by
       rcases hat8 with h|h
       ·rw [e] at h;have h1:k=wy.heap.size:=by injection h
        omega
       ·rw [e] at h;have h1:k=wy.heap.size+1:=by simpa using h
        omega)
      have z8s:=c8.size
      clear hrow8 hgrow8 hnil8 hat8 NEWS
      clear fX lX x0 x1 x2 KX
      have KX:=hideIt XS8.out.2.2.1
      have fX:=KX.out.frozen
      have lX:=KX.out.lt
      have x0:=KX.out.cell 0
      have x1:=KX.out.cell 1
      have x2:=KX.out.cell 2
      simp at x0 x1 x2
      go_wp2_with (at_builtin;go_loud (refine wpList_append_own_at _ rfl _ _ 39 rfl (ur.heap.size+1) 2 iI (.int .i64 0) 1 8 Tryz.underlying39 hiI hzI hsI hbI rfl (by decide) (.slice A8 Lx.length k8) Lx.length (Lx.map (Value.int .i64)) rfl (own8.out.alloc _) ⟨w8.heap.size,0,none⟩ 1 1 [.int .i64 (zm)] rfl rfl (cells_new _ _ _) (by intro u hu;simp at hu;subst hu;rfl) (by unfold maxLen;omega) (by omega) (by simp;omega) ?_))
      intro v9 w9 hrow hgrow hnil hat
      have hrow:w9.ownsRow (ur.heap.size+1) 2 1 v9 (Lx.length+1) (Lx.map (Value.int .i64)++[.int .i64 (zm)]):=by simpa using hrow
      have cc:Chg [] wy w9:=(c8.alloc _).grown hgrow (fun k e=>.inr (hb8.out k e))
      have XS9:=hideIt (XS.out.over cc)
      have RW9:Hid (w9.ownsRow (ur.heap.size+1) 2 1 v9 (Lx++[(zm:Int)]).length ((Lx++[(zm:Int)]).map (Value.int .i64))):=hideIt (by rw [List.map_append,List.length_append];exact hrow)
      obtain ⟨A9,c9,ev⟩:=own_slice RW9.out
      have ev2:v9=.slice A9 (Lx.length+1) c9:=by rw [ev,List.length_append];rfl
      clear ev
      subst ev2
      have XSP:=hideIt (XS9.out.put WUR.out (by simp) RW9.out)
      clear hrow hgrow hnil hat cc own0 XS zx
      clear fX lX x0 x1 x2 KX
      have KX:=hideIt XS9.out.2.2.1
      have fX:=KX.out.frozen
      have lX:=KX.out.lt
      have x0:=KX.out.cell 0
      have x1:=KX.out.cell 1
      have x2:=KX.out.cell 2
      simp at x0 x1 x2
      go_wp2
      go_roundw
      case rel=>exact ⟨j+1,_,Lx++[zm],by go_num,by omega,hideIt (by have:=LL.out;simp at this ⊢;omega),XSP⟩
      case measure=>simp [intOf];omega
    ·have hpe:¬(j:Int)<pc - 1:=hj
     have KX:=hideIt XS.out.2.2.1
     have fX:=KX.out.frozen
     have lX:=KX.out.lt
     have x0:=KX.out.cell 0
     have x1:=KX.out.cell 1
     have x2:=KX.out.cell 2
     simp at x0 x1 x2
     have zx:ur.heap.size+1≤wr.heap.size:=lX
     have own0:Hid ((wr.alloc (.cells #[] 2)).ownsRow (ur.heap.size+1) 2 1 (.slice (some ⟨wr.heap.size,0,none⟩) 0 0) 0 []):=hideIt ⟨rfl,.inr ⟨_,0,#[],rfl,zx,Blk.new wr _ _,Nat.le_refl _,Nat.zero_le _,rfl,rfl⟩⟩
     rcases XS.out.2.2.2.1 with ⟨hL,hv⟩|⟨hL,hv⟩
     ·subst hL hv
      have NEW1:Hid (∀(j:Nat) (u:Value),[Value.int .i64 ((ns.length:Int))][j]?=some u→((wr.alloc (.cells #[] 2)).alloc (.cells #[.int .i64 ((ns.length:Int))] 2)).cell? ((⟨wr.heap.size+1,0,none⟩:Addr).add j)=some u):=hideIt (by
       have h:=cells_new (wr.alloc (.cells #[] 2)) #[.int .i64 ((ns.length:Int))] 2
       rw [show (wr.alloc (.cells #[] 2)).heap.size=wr.heap.size+1 by simp] at h
       exact h)
      go_wp2_with (at_builtin;go_loud (refine wpList_append_own_at _ rfl _ _ 39 rfl (ur.heap.size+1) 2 iI (.int .i64 0) 1 8 Tryz.underlying39 hiI hzI hsI hbI rfl (by decide) (.slice (some ⟨wr.heap.size,0,none⟩) 0 0) 0 [] rfl (own0.out.alloc _) ⟨(wr.heap.size+1),0,none⟩ 1 1 [.int .i64 ((ns.length:Int))] rfl rfl NEW1.out (by intro u hu;simp at hu;subst hu;rfl) (by unfold maxLen;omega) (by omega) (by simp;omega) ?_))
      intro v9 w9 hrow hgrow hnil hat
      have cc:Chg [] wr w9:=(((Chg.refl [] _).alloc _).alloc _).grown hgrow (fun k e=>.inr (Nat.le_of_eq (by injection e)))
      have XS9:=hideIt (XS.out.over cc)
      have RW9:Hid (w9.ownsRow (ur.heap.size+1) 2 1 v9 (([]:List Int)++[((ns.length:Int):Int)]).length ((([]:List Int)++[((ns.length:Int):Int)]).map (Value.int .i64))):=hideIt (by rw [List.map_append,List.length_append];exact hrow)
      obtain ⟨A9,c9,ev⟩:=own_slice RW9.out
      have ev2:v9=.slice A9 (0+1) c9:=by rw [ev,List.length_append];rfl
      clear ev
      subst ev2
      have XSP:=hideIt (XS9.out.put WUR.out (by simp) RW9.out)
      clear hrow hgrow hnil hat cc own0 XS zx
      clear fX lX x0 x1 x2 KX
      have KX:=hideIt XS9.out.2.2.1
      have fX:=KX.out.frozen
      have lX:=KX.out.lt
      have x0:=KX.out.cell 0
      have x1:=KX.out.cell 1
      have x2:=KX.out.cell 2
      simp at x0 x1 x2
      go_wp2_with fail
      refine at_w (fun u=>XSt w0 ur b nm z (.slice A9 (0+1) c9) (([]:List Int)++[(ns.length:Int)]) u) XSP.out (fun ua hu=>?_)
      have XA:=hideIt hu
      clear hu XSP XS9 RW9 KX fX lX x0 x1 x2
      refine (num_any ns.length (by omega) _).mono ?_
      rintro e ub ⟨rfl,g3⟩
      have XB:=hideIt (XA.out.next (Chg.of_grows g3) (XA.out.2.1.grows g3))
      obtain ⟨gx,cx',hev,-,-,gxl,-,-⟩:=row_at (XB.out.2.2.2.1.resolve_left (fun h=>by simp at h)).2 (by simp)
      have gxe:A9=some ⟨gx,0,none⟩:=by injection hev
      subst gxe
      have gxb:=((XB.out.2.2.2.1.resolve_left (fun h=>by simp at h)).2.lt gx rfl).1
      have RX:=hideIt (XB.out.2.2.2.1.resolve_left (fun h=>by simp at h)).2
      have FR3:=hideIt (FR2.out.next XB.out.1 XB.out.2.1)
      have SUR:Hid (w.heap.size≤ur.heap.size):=hideIt FR2.out.2.1.size
      have LUR:Hid (w.heap.size+1+1+1+1<ur.heap.size):=hideIt (FR2.out.2.2.1 (w.heap.size+1+1+1+1,2,#[.int .i64 2,.int .i64 2,.int .i64 3,.int .i64 3,.int .i64 4,.int .i64 3,.int .i64 3,.int .i64 3]) (by simp)).1.lt
      have DS3:Hid (DSt (fun q=>w.heap.size+1+1+1+1<q∧q≠gx∧q≠ur.heap.size) ub (.slice Ai xs.length ci) xs (.slice An ns.length cn) ns):=hideIt ((DS2.out.next XB.out.1 NQ.out).imp (fun q hl hq=>hq) |> fun h=>(DS2.out.imp (Q':=(fun q=>w.heap.size+1+1+1+1<q∧q≠gx∧q≠ur.heap.size)) (fun q hl hq=>⟨hq,by omega,by omega⟩)).next XB.out.1 (fun q hq=>by simp at hq;subst hq;intro h;have:=h.1;have:=hb.out;omega))
      obtain ⟨sn2,hsn2⟩:∃sn,sn=decB ns.length:=⟨_,rfl⟩
      have sz2:sn2.size≤16:=by rw [hsn2];exact (decB_size (by omega)).1
      rw [←hsn2]
      have szn2:¬9223372036854775807<1+sn2.size:=by omega
      obtain ⟨nm2,hnm2⟩:∃nm:ByteArray,nm=⟨#[110]⟩++sn2:=⟨_,rfl⟩
      have nmz2:nm2.size≤17:=by rw [hnm2,ByteArray.size_append];show 1+sn2.size≤17;omega
      have NMH2:Hid ((⟨#[110]⟩:ByteArray)++sn2=nm2):=hideIt hnm2.symm
      have hnm3:(⟨#[110]⟩:ByteArray)++sn2=nm2:=hnm2.symm
      obtain ⟨ncells,nrow,nclo⟩:=DS3.out.net
      have NROW:=hideIt (nrow.alloc (.cells #[.string nm2] 9))
      have NCLO:=hideIt nclo
      have KXB:=hideIt XB.out.2.2.1
      clear nrow nclo hsn2 hnm2 g3 hev
      go_wp2_with (at_builtin;go_loud (refine wpList_append_own_at _ rfl _ _ 28 rfl 0 9 iS (.string .empty) 1 iS.bytes Tryz.underlying28 hiS hzS hsS rfl rfl (by decide) (.slice An ns.length cn) ns.length ncells rfl NROW.out ⟨ub.heap.size,0,none⟩ 1 1 [.string nm2] rfl rfl (cells_new _ _ _) (by intro u hu;simp at hu;subst hu;rfl) (by unfold maxLen;omega) (by have:(ns.length+1) * iS.bytes≤10 * 256:=Nat.mul_le_mul (by omega) hbS;omega) (Nat.zero_le _) ?_))
      intro vn9 wn hrow hgrow hnil hat
      have hnQ:=DS3.out.owns
      have ub1:=KXB.out.lt
      have ub2:=LUR.out
      have DS4:=hideIt (NCLO.out _ wn vn9 nm2 [] ((Chg.refl [] ub).alloc (.cells #[.string nm2] 9)) (by simp) (by simp;omega) (by omega) hgrow (by simpa using hat) hrow)
      have cg4:Chg (Value.slice An ns.length cn).ownBlock.toList (ub.alloc (.cells #[.string nm2] 9)) wn:=(Chg.refl _ _).grown hgrow (fun k e=>.inl (by rw [e];simp))
      have KX4:=hideIt ((KXB.out.grows ((Grows.refl ub).alloc (.cells #[.string nm2] 9))).chg cg4 (fun hm=>by have:=(hnQ _ (.inr (by simpa using hm))).1;omega))
      have RX4:=hideIt (ownsRow_same (RX.out.alloc (.cells #[.string nm2] 9)) (cg4.same (fun q hq=>by simp [Value.ownBlock] at hq;subst hq;simp;omega) (fun q hq hm=>by
       simp [Value.ownBlock] at hq
       subst hq
       have:=(hnQ _ (.inr (by simpa using hm))).1
       omega)))
      have FR4:=hideIt ((FR3.out.alloc (.cells #[.string nm2] 9)).grown hgrow (fun k e=>by
       have h9:=(hnQ k (.inr e)).1
       refine ⟨by omega,fun q hq=>?_⟩
       simp only [List.mem_cons,List.not_mem_nil,or_false] at hq
       rcases hq with rfl|rfl|rfl|rfl|rfl<;>(dsimp only;omega)))
      obtain ⟨A5,c5,ev⟩:=own_slice hrow
      have ev2:vn9=.slice A5 (ns.length+1) c5:=ev
      clear ev
      subst ev2
      obtain ⟨icells,irow,iclo⟩:=DS4.out.inst (Q:=(fun q=>(w.heap.size+1+1+1+1)<q)) (fun q hq=>hq.1)
      have IROW:=hideIt (irow.alloc (.cells #[.string nm,.int .i64 (z:Int),.slice (some ⟨gx,0,none⟩) (0+1) c9] 72))
      have ICLO:=hideIt iclo
      have szn4:=cg4.size
      have fX:=KX4.out.frozen
      have lX:=KX4.out.lt
      have x0:=KX4.out.cell 0
      have x1:=KX4.out.cell 1
      have x2:=KX4.out.cell 2
      simp at x0 x1 x2 szn4
      clear irow iclo hrow hgrow hnil hat cg4 NROW NCLO KXB RX FR3 DS3 hnQ
      go_wp2_with (at_builtin;go_loud (refine wpList_append_own_at _ rfl _ _ 27 rfl 0 72 iN (.agg #[.string .empty,.int .i64 0,.slice none 0 0]) 3 iN.bytes Tryz.underlying27 hiN hzN hsN rfl rfl (by decide) (.slice Ai xs.length ci) xs.length icells rfl IROW.out ⟨wn.heap.size,0,none⟩ 1 1 [.string nm,.int .i64 (z:Int),.slice (some ⟨gx,0,none⟩) (0+1) c9] rfl rfl (cells_new _ _ _) (by intro u hu;simp at hu;rcases hu with rfl|rfl|rfl<;>rfl) (by unfold maxLen;omega) (by have:(xs.length+1) * iN.bytes≤10 * 256:=Nat.mul_le_mul (by omega) hbN;omega) (Nat.zero_le _) ?_))
      intro vi9 wi hrow2 hgrow2 hnil2 hat2
      have hiQ:=DS4.out.owns
      have DS5:=hideIt (ICLO.out _ wi vi9 ⟨nm,z,([]:List Int)++[(ns.length:Int)]⟩ _ [gx] [] ((Chg.refl [] wn).alloc (.cells #[.string nm,.int .i64 (z:Int),.slice (some ⟨gx,0,none⟩) (0+1) c9] 72)) (by simp) (by simp;omega)
       ⟨⟨_,_,rfl,by show nm.size≤_;unfold maxLen;omega,own_oints1 (RX4.out.alloc (.cells #[.string nm,.int .i64 (z:Int),.slice (some ⟨gx,0,none⟩) (0+1) c9] 72)) (by simp),rfl⟩,⟨by simp,by have:=LL.out;simp<;>omega⟩,by show nm.size≤100;omega⟩
       rfl ⟨by simp,fun q hq=>by simp at hq;subst hq;simp;omega⟩ (fun q hq h=>by simp at hq;exact h.2.1 hq) hgrow2 (by simpa using hat2) hrow2)
      have FR5:=hideIt ((FR4.out.alloc (.cells #[.string nm,.int .i64 (z:Int),.slice (some ⟨gx,0,none⟩) (0+1) c9] 72)).grown hgrow2 (fun k e=>by
       have h9:=(hiQ k (.inl e)).1
       refine ⟨by omega,fun q hq=>?_⟩
       simp only [List.mem_cons,List.not_mem_nil,or_false] at hq
       rcases hq with rfl|rfl|rfl|rfl|rfl<;>(dsimp only;omega)))
      obtain ⟨⟨A4,c4,ev⟩,-⟩:=DS5.out.slices
      have ev2:vi9=.slice A4 (xs.length+1) c4:=by rw [ev,List.length_append];rfl
      clear ev
      subst ev2
      have NL5:Hid ((ns++[nm2]).length=(xs++[(⟨nm,z,([]:List Int)++[(ns.length:Int)]⟩:InstD)]).length+3):=hideIt (by rw [List.length_append,List.length_append,NL.out];simp<;>omega)
      clear hrow2 hgrow2 hnil2 hat2 hiQ fX lX x0 x1 x2 IROW ICLO RX4 KX4 FR4 DS4 NL hnm3
      go_wp2
      go_roundw
      case rel=>exact ⟨_,_,xs++[(⟨nm,z,([]:List Int)++[(ns.length:Int)]⟩:InstD)],ns++[nm2],k - 1,rfl,rfl,by go_num,⟨by omega,by simp;omega,by simp;omega⟩,NL5,FR5,DS5⟩
      case measure=>simp [intOf];omega
     ·have hj8:Lx.length≤4:=by have:=LL.out;omega
      obtain ⟨gx,cx,ev,l1,l2,lg,-,-⟩:=row_at hv hL
      subst ev
      have HV:=hideIt hv
      have NEWS:=hideIt (row_news (hv.alloc (.cells #[] 2)))
      clear hv
      go_wp2_with (at_builtin;go_loud (refine wpList_append_own_at _ rfl _ _ 39 rfl (ur.heap.size+1) 2 iI (.int .i64 0) 1 8 Tryz.underlying39 hiI hzI hsI hbI rfl (by decide) (.slice (some ⟨wr.heap.size,0,none⟩) 0 0) 0 [] rfl own0.out ⟨gx,0,none⟩ Lx.length cx (Lx.map (Value.int .i64)) rfl (by simp) NEWS.out (by intro u hu;obtain ⟨x,-,rfl⟩:=List.mem_map.1 hu;rfl) (by unfold maxLen;omega) (by omega) (by simp;omega) ?_))
      intro v8 w8 hrow8 hgrow8 hnil8 hat8
      have c8:Chg [] wr w8:=((Chg.refl [] _).alloc _).grown hgrow8 (fun k e=>.inr (Nat.le_of_eq (by injection e)))
      have own8:=hideIt hrow8
      obtain ⟨A8,k8,ev⟩:=own_slice hrow8
      subst ev
      have lo8:=hideIt (own_ge hrow8)
      have XS8:=hideIt (XS.out.over c8)
      have hb8:Hid (∀k,(Value.slice A8 Lx.length k8).ownBlock=some k→wr.heap.size≤k):=hideIt (fun k e=>by
       rcases hat8 with h|h
       ·rw [e] at h;have h1:k=wr.heap.size:=by injection h
        omega
       ·rw [e] at h;have h1:k=wr.heap.size+1:=by simpa using h
        omega)
      have z8s:=c8.size
      clear hrow8 hgrow8 hnil8 hat8 NEWS
      clear fX lX x0 x1 x2 KX
      have KX:=hideIt XS8.out.2.2.1
      have fX:=KX.out.frozen
      have lX:=KX.out.lt
      have x0:=KX.out.cell 0
      have x1:=KX.out.cell 1
      have x2:=KX.out.cell 2
      simp at x0 x1 x2
      go_wp2_with (at_builtin;go_loud (refine wpList_append_own_at _ rfl _ _ 39 rfl (ur.heap.size+1) 2 iI (.int .i64 0) 1 8 Tryz.underlying39 hiI hzI hsI hbI rfl (by decide) (.slice A8 Lx.length k8) Lx.length (Lx.map (Value.int .i64)) rfl (own8.out.alloc _) ⟨w8.heap.size,0,none⟩ 1 1 [.int .i64 ((ns.length:Int))] rfl rfl (cells_new _ _ _) (by intro u hu;simp at hu;subst hu;rfl) (by unfold maxLen;omega) (by omega) (by simp;omega) ?_))
      intro v9 w9 hrow hgrow hnil hat
      have hrow:w9.ownsRow (ur.heap.size+1) 2 1 v9 (Lx.length+1) (Lx.map (Value.int .i64)++[.int .i64 ((ns.length:Int))]):=by simpa using hrow
      have cc:Chg [] wr w9:=(c8.alloc _).grown hgrow (fun k e=>.inr (hb8.out k e))
      have XS9:=hideIt (XS.out.over cc)
      have RW9:Hid (w9.ownsRow (ur.heap.size+1) 2 1 v9 (Lx++[((ns.length:Int):Int)]).length ((Lx++[((ns.length:Int):Int)]).map (Value.int .i64))):=hideIt (by rw [List.map_append,List.length_append];exact hrow)
      obtain ⟨A9,c9,ev⟩:=own_slice RW9.out
      have ev2:v9=.slice A9 (Lx.length+1) c9:=by rw [ev,List.length_append];rfl
      clear ev
      subst ev2
      have XSP:=hideIt (XS9.out.put WUR.out (by simp) RW9.out)
      clear hrow hgrow hnil hat cc own0 XS zx
      clear fX lX x0 x1 x2 KX
      have KX:=hideIt XS9.out.2.2.1
      have fX:=KX.out.frozen
      have lX:=KX.out.lt
      have x0:=KX.out.cell 0
      have x1:=KX.out.cell 1
      have x2:=KX.out.cell 2
      simp at x0 x1 x2
      go_wp2_with fail
      refine at_w (fun u=>XSt w0 ur b nm z (.slice A9 (Lx.length+1) c9) (Lx++[(ns.length:Int)]) u) XSP.out (fun ua hu=>?_)
      have XA:=hideIt hu
      clear hu XSP XS9 RW9 KX fX lX x0 x1 x2
      refine (num_any ns.length (by omega) _).mono ?_
      rintro e ub ⟨rfl,g3⟩
      have XB:=hideIt (XA.out.next (Chg.of_grows g3) (XA.out.2.1.grows g3))
      obtain ⟨gx,cx',hev,-,-,gxl,-,-⟩:=row_at (XB.out.2.2.2.1.resolve_left (fun h=>by simp at h)).2 (by simp)
      have gxe:A9=some ⟨gx,0,none⟩:=by injection hev
      subst gxe
      have gxb:=((XB.out.2.2.2.1.resolve_left (fun h=>by simp at h)).2.lt gx rfl).1
      have RX:=hideIt (XB.out.2.2.2.1.resolve_left (fun h=>by simp at h)).2
      have FR3:=hideIt (FR2.out.next XB.out.1 XB.out.2.1)
      have SUR:Hid (w.heap.size≤ur.heap.size):=hideIt FR2.out.2.1.size
      have LUR:Hid (w.heap.size+1+1+1+1<ur.heap.size):=hideIt (FR2.out.2.2.1 (w.heap.size+1+1+1+1,2,#[.int .i64 2,.int .i64 2,.int .i64 3,.int .i64 3,.int .i64 4,.int .i64 3,.int .i64 3,.int .i64 3]) (by simp)).1.lt
      have DS3:Hid (DSt (fun q=>w.heap.size+1+1+1+1<q∧q≠gx∧q≠ur.heap.size) ub (.slice Ai xs.length ci) xs (.slice An ns.length cn) ns):=hideIt ((DS2.out.next XB.out.1 NQ.out).imp (fun q hl hq=>hq) |> fun h=>(DS2.out.imp (Q':=(fun q=>w.heap.size+1+1+1+1<q∧q≠gx∧q≠ur.heap.size)) (fun q hl hq=>⟨hq,by omega,by omega⟩)).next XB.out.1 (fun q hq=>by simp at hq;subst hq;intro h;have:=h.1;have:=hb.out;omega))
      obtain ⟨sn2,hsn2⟩:∃sn,sn=decB ns.length:=⟨_,rfl⟩
      have sz2:sn2.size≤16:=by rw [hsn2];exact (decB_size (by omega)).1
      rw [←hsn2]
      have szn2:¬9223372036854775807<1+sn2.size:=by omega
      obtain ⟨nm2,hnm2⟩:∃nm:ByteArray,nm=⟨#[110]⟩++sn2:=⟨_,rfl⟩
      have nmz2:nm2.size≤17:=by rw [hnm2,ByteArray.size_append];show 1+sn2.size≤17;omega
      have NMH2:Hid ((⟨#[110]⟩:ByteArray)++sn2=nm2):=hideIt hnm2.symm
      have hnm3:(⟨#[110]⟩:ByteArray)++sn2=nm2:=hnm2.symm
      obtain ⟨ncells,nrow,nclo⟩:=DS3.out.net
      have NROW:=hideIt (nrow.alloc (.cells #[.string nm2] 9))
      have NCLO:=hideIt nclo
      have KXB:=hideIt XB.out.2.2.1
      clear nrow nclo hsn2 hnm2 g3 hev
      go_wp2_with (at_builtin;go_loud (refine wpList_append_own_at _ rfl _ _ 28 rfl 0 9 iS (.string .empty) 1 iS.bytes Tryz.underlying28 hiS hzS hsS rfl rfl (by decide) (.slice An ns.length cn) ns.length ncells rfl NROW.out ⟨ub.heap.size,0,none⟩ 1 1 [.string nm2] rfl rfl (cells_new _ _ _) (by intro u hu;simp at hu;subst hu;rfl) (by unfold maxLen;omega) (by have:(ns.length+1) * iS.bytes≤10 * 256:=Nat.mul_le_mul (by omega) hbS;omega) (Nat.zero_le _) ?_))
      intro vn9 wn hrow hgrow hnil hat
      have hnQ:=DS3.out.owns
      have ub1:=KXB.out.lt
      have ub2:=LUR.out
      have DS4:=hideIt (NCLO.out _ wn vn9 nm2 [] ((Chg.refl [] ub).alloc (.cells #[.string nm2] 9)) (by simp) (by simp;omega) (by omega) hgrow (by simpa using hat) hrow)
      have cg4:Chg (Value.slice An ns.length cn).ownBlock.toList (ub.alloc (.cells #[.string nm2] 9)) wn:=(Chg.refl _ _).grown hgrow (fun k e=>.inl (by rw [e];simp))
      have KX4:=hideIt ((KXB.out.grows ((Grows.refl ub).alloc (.cells #[.string nm2] 9))).chg cg4 (fun hm=>by have:=(hnQ _ (.inr (by simpa using hm))).1;omega))
      have RX4:=hideIt (ownsRow_same (RX.out.alloc (.cells #[.string nm2] 9)) (cg4.same (fun q hq=>by simp [Value.ownBlock] at hq;subst hq;simp;omega) (fun q hq hm=>by
       simp [Value.ownBlock] at hq
       subst hq
       have:=(hnQ _ (.inr (by simpa using hm))).1
       omega)))
      have FR4:=hideIt ((FR3.out.alloc (.cells #[.string nm2] 9)).grown hgrow (fun k e=>by
       have h9:=(hnQ k (.inr e)).1
       refine ⟨by omega,fun q hq=>?_⟩
       simp only [List.mem_cons,List.not_mem_nil,or_false] at hq
       rcases hq with rfl|rfl|rfl|rfl|rfl<;>(dsimp only;omega)))
      obtain ⟨A5,c5,ev⟩:=own_slice hrow
      have ev2:vn9=.slice A5 (ns.length+1) c5:=ev
      clear ev
      subst ev2
      obtain ⟨icells,irow,iclo⟩:=DS4.out.inst (Q:=(fun q=>(w.heap.size+1+1+1+1)<q)) (fun q hq=>hq.1)
      have IROW:=hideIt (irow.alloc (.cells #[.string nm,.int .i64 (z:Int),.slice (some ⟨gx,0,none⟩) (Lx.length+1) c9] 72))
      have ICLO:=hideIt iclo
      have szn4:=cg4.size
      have fX:=KX4.out.frozen
      have lX:=KX4.out.lt
      have x0:=KX4.out.cell 0
      have x1:=KX4.out.cell 1
      have x2:=KX4.out.cell 2
      simp at x0 x1 x2 szn4
      clear irow iclo hrow hgrow hnil hat cg4 NROW NCLO KXB RX FR3 DS3 hnQ
      go_wp2_with (at_builtin;go_loud (refine wpList_append_own_at _ rfl _ _ 27 rfl 0 72 iN (.agg #[.string .empty,.int .i64 0,.slice none 0 0]) 3 iN.bytes Tryz.underlying27 hiN hzN hsN rfl rfl (by decide) (.slice Ai xs.length ci) xs.length icells rfl IROW.out ⟨wn.heap.size,0,none⟩ 1 1 [.string nm,.int .i64 (z:Int),.slice (some ⟨gx,0,none⟩) (Lx.length+1) c9] rfl rfl (cells_new _ _ _) (by intro u hu;simp at hu;rcases hu with rfl|rfl|rfl<;>rfl) (by unfold maxLen;omega) (by have:(xs.length+1) * iN.bytes≤10 * 256:=Nat.mul_le_mul (by omega) hbN;omega) (Nat.zero_le _) ?_))
      intro vi9 wi hrow2 hgrow2 hnil2 hat2
      have hiQ:=DS4.out.owns
      have DS5:=hideIt (ICLO.out _ wi vi9 ⟨nm,z,Lx++[(ns.length:Int)]⟩ _ [gx] [] ((Chg.refl [] wn).alloc (.cells #[.string nm,.int .i64 (z:Int),.slice (some ⟨gx,0,none⟩) (Lx.length+1) c9] 72)) (by simp) (by simp;omega)
       ⟨⟨_,_,rfl,by show nm.size≤_;unfold maxLen;omega,own_oints1 (RX4.out.alloc (.cells #[.string nm,.int .i64 (z:Int),.slice (some ⟨gx,0,none⟩) (Lx.length+1) c9] 72)) (by simp),rfl⟩,⟨by simp,by have:=LL.out;simp<;>omega⟩,by show nm.size≤100;omega⟩
       rfl ⟨by simp,fun q hq=>by simp at hq;subst hq;simp;omega⟩ (fun q hq h=>by simp at hq;exact h.2.1 hq) hgrow2 (by simpa using hat2) hrow2)
      have FR5:=hideIt ((FR4.out.alloc (.cells #[.string nm,.int .i64 (z:Int),.slice (some ⟨gx,0,none⟩) (Lx.length+1) c9] 72)).grown hgrow2 (fun k e=>by
       have h9:=(hiQ k (.inl e)).1
       refine ⟨by omega,fun q hq=>?_⟩
       simp only [List.mem_cons,List.not_mem_nil,or_false] at hq
       rcases hq with rfl|rfl|rfl|rfl|rfl<;>(dsimp only;omega)))
      obtain ⟨⟨A4,c4,ev⟩,-⟩:=DS5.out.slices
      have ev2:vi9=.slice A4 (xs.length+1) c4:=by rw [ev,List.length_append];rfl
      clear ev
      subst ev2
      have NL5:Hid ((ns++[nm2]).length=(xs++[(⟨nm,z,Lx++[(ns.length:Int)]⟩:InstD)]).length+3):=hideIt (by rw [List.length_append,List.length_append,NL.out];simp<;>omega)
      clear hrow2 hgrow2 hnil2 hat2 hiQ fX lX x0 x1 x2 IROW ICLO RX4 KX4 FR4 DS4 NL hnm3
      go_wp2
      go_roundw
      case rel=>exact ⟨_,_,xs++[(⟨nm,z,Lx++[(ns.length:Int)]⟩:InstD)],ns++[nm2],k - 1,rfl,rfl,by go_num,⟨by omega,by simp;omega,by simp;omega⟩,NL5,FR5,DS5⟩
      case measure=>simp [intOf];omega
  ·have hx2:2≤xs.length∧xs.length≤6:=by omega
   have ke:¬0<k:=hk
   have DFX:=hideIt DS.out.df
   have NL0:Hid (5≤ns.length∧ns.length≤9):=hideIt (by have:=NL.out;omega)
   clear DS NL k0 k1 k2
   go_wp2
   go_loopw [16] (fun i wq=>∃(m:Nat) (ys:List InstD),i=.int .i64 (m:Int)∧m≤xs.length∧Hid (ys.length=xs.length)∧Hid (Fr [(w.heap.size,31,#[.slice none 0 0,.slice none 0 0,.slice none 0 0]),((w.heap.size+1),9,#[.string ⟨#[110,99,107]⟩,.string ⟨#[110,97]⟩,.string ⟨#[110,98]⟩]),((w.heap.size+1+1),31,#[.slice none 0 0,.slice (some ⟨(w.heap.size+1),0,none⟩) 3 3,.slice (some ⟨(w.heap.size+1+1+1),0,none⟩) 3 3]),((w.heap.size+1+1+1),74,#[.string ⟨#[99,107]⟩,.int .i64 1,.int .i64 0,.string ⟨#[97]⟩,.int .i64 1,.int .i64 1,.string ⟨#[98]⟩,.int .i64 1,.int .i64 2]),((w.heap.size+1+1+1+1),2,#[.int .i64 2,.int .i64 2,.int .i64 3,.int .i64 3,.int .i64 4,.int .i64 3,.int .i64 3,.int .i64 3])] w0 w b wq)∧Hid (DF (fun q=>(w.heap.size+1+1+1+1)<q) wq vi ys vn ns)) (fun i _=>xs.length - (intOf i).toNat)
   case atStart=>exact ⟨0,xs,rfl,Nat.zero_le _,hideIt rfl,FR,DFX⟩
   case round =>
    clear FR DFX
    obtain ⟨m,ys,rfl,hm,YL,FR,DX⟩:=hrel
    obtain ⟨⟨Ai,ci,ev0⟩,An,cn,ev2⟩:=DX.out.slices
    have ev1:vi=.slice Ai xs.length ci:=by rw [ev0,YL.out]
    clear ev0
    subst ev1 ev2
    have mi:(m:Int)≤(xs.length:Int):=by omega
    have nl9:ns.length≤9∧5≤ns.length:=by have:=NL0.out;omega
    have ewn:IntKind.i64.wrap ((ns.length:Int) - 1)=(ns.length:Int) - 1:=IntWalk.i64_in _ (by omega)
    by_cases hlt:m<xs.length
    ·have hlti:(m:Int)<(xs.length:Int):=by omega
     go_upto_region 26 with fail
     go_cut [133] (fun s133 wx=>∃t:Bool,s133=.bool t∧Hid (Fr [(w.heap.size,31,#[.slice none 0 0,.slice none 0 0,.slice none 0 0]),((w.heap.size+1),9,#[.string ⟨#[110,99,107]⟩,.string ⟨#[110,97]⟩,.string ⟨#[110,98]⟩]),((w.heap.size+1+1),31,#[.slice none 0 0,.slice (some ⟨(w.heap.size+1),0,none⟩) 3 3,.slice (some ⟨(w.heap.size+1+1+1),0,none⟩) 3 3]),((w.heap.size+1+1+1),74,#[.string ⟨#[99,107]⟩,.int .i64 1,.int .i64 0,.string ⟨#[97]⟩,.int .i64 1,.int .i64 1,.string ⟨#[98]⟩,.int .i64 1,.int .i64 2]),((w.heap.size+1+1+1+1),2,#[.int .i64 2,.int .i64 2,.int .i64 3,.int .i64 3,.int .i64 4,.int .i64 3,.int .i64 3,.int .i64 3])] w0 w b wx)∧Hid (DF (fun q=>(w.heap.size+1+1+1+1)<q) wx (.slice Ai xs.length ci) ys (.slice An ns.length cn) ns))
     case first =>
      go_wp2_with fail
      refine (l01Next_any (w0:=w0) 4 FR.out.1).mono ?_
      rintro e u8 ⟨r,rfl,ra,rb,h_,c_⟩
      replace FR:=hideIt (FR.out.next c_ h_)
      replace DX:=hideIt (DX.out.next c_ NQ.out)
      clear h_ c_ rb
      obtain ⟨gi,ci',gn,cx,x,n0,ev,hx,⟨qi,li,fi⟩,⟨qn,ln,fn⟩,hne,hn1,⟨i0,i1,i2,i3⟩,SETN,-⟩:=DX.out.inst (i:=m) (by rw [YL.out];exact hlt)
      have ev3:Ai=some ⟨gi,0,none⟩:=by injection ev
      have ev4:ci=ci':=by injection ev
      subst ev3 ev4
      clear ev hx qi SETN qn hne
      by_cases h0:r=0
      ·subst h0
       by_cases h5:x.cell=5
       ·have h5b:(x.cell==5)=true:=by simpa using h5
        clear h5
        go_wp2_with fail
        go_meet
        exact ⟨_,rfl,FR,DX⟩
       ·have h5b:(x.cell==5)=false:=by simpa using h5
        by_cases h6:x.cell=6
        ·have h6b:(x.cell==6)=true:=by simpa using h6
         clear h5 h6
         go_wp2_with fail
         go_meet
         exact ⟨_,rfl,FR,DX⟩
        ·have h6b:(x.cell==6)=false:=by simpa using h6
         clear h5 h6
         go_wp2_with fail
         go_meet
         exact ⟨_,rfl,FR,DX⟩
      ·have h02:(r==0)=false:=by simpa using h0
       clear h0
       go_wp2_with fail
       go_meet
       exact ⟨_,rfl,FR,DX⟩
     clear FR DX
     obtain ⟨t,rfl,FR,DX⟩:=hcut
     obtain ⟨u8,rfl⟩:∃y:World,y=wc:=⟨_,rfl⟩
     cases t
     ·go_wp2
      go_roundw
      case rel=>exact ⟨m+1,ys,by go_num,by omega,YL,FR,DX⟩
      case measure=>simp [intOf];omega
     ·obtain ⟨gi,ci',gn,cx,x,n0,ev,hx,⟨qi,li,fi⟩,⟨qn,ln,fn⟩,hne,hn1,⟨i0,i1,i2,i3⟩,SETN,-⟩:=DX.out.inst (i:=m) (by rw [YL.out];exact hlt)
      have ev3:Ai=some ⟨gi,0,none⟩:=by injection ev
      have ev4:ci=ci':=by injection ev
      subst ev3 ev4
      have QI:=hideIt qi
      have HK:Hid (∀w',Chg [b,gn] u8 w'→w'.cell? ⟨gi,m * 3+2,none⟩=some (.slice (some ⟨gn,0,none⟩) x.nets.length cx)):=hideIt (fun w' c=>c.cell i2 (by have:=hb.out;simp;omega))
      have hn1i:(0:Int)<(x.nets.length:Int):=by omega
      have hn1n:0<x.nets.length:=by omega
      clear ev hx qi SETN hne
      go_upto_region 27 with fail
      refine wp_region_held_drew (S:=(fun w'=>w'.cell? ⟨gi,m * 3+2,none⟩=some (.slice (some ⟨gn,0,none⟩) x.nets.length cx))) (by kernel_rfl) ?_ (fun hh0=>?_)
      ·(try dsimp only);refine HK.out _ ?_;(repeat with_reducible (first|exact gg|exact Chg.refl _ _|refine Chg.drew ?_|refine Chg.alloc ?_ _|refine Chg.setCell ?_ (by simp) _))
      refine regTk 0 hh0 ?_
      refine regTk 1 hh0 ?_
      refine regTk 2 hh0 ?_
      refine regTk 3 hh0 ?_
      refine regTk 4 hh0 ?_
      refine regTk 5 hh0 ?_
      refine regTk 6 hh0 ?_
      refine regTk 7 hh0 ?_
      refine regTk 8 hh0 ?_
      refine regCall 9 (fun K hK=>?_)
      go_simp
      refine (l01Next_any (w0:=w0) ((ns.length:Int) - 1) FR.out.1.drew).mono ?_
      rintro e u9 ⟨r,rfl,ra,rb,h_,c_⟩
      have rc:=rb (by omega)
      have ew3:IntKind.i64.wrap (1+r)=1+r:=IntWalk.i64_in _ (by omega)
      have gg:Chg [b,gn] u8 u9:=((Chg.refl _ _).drew).trans (c_.mono (by simp))
      have cb:=((Chg.refl [b] u8).drew).trans c_
      replace FR:=hideIt (FR.out.next cb h_)
      replace DX:=hideIt (DX.out.next cb NQ.out)
      obtain ⟨g9,c9,h9,k9,y,n9,ev,hy,⟨qi,li',fi'⟩,⟨qn',ln',fn'⟩,hne,hn9,⟨j0,j1,j2,j3⟩,SETN,-⟩:=DX.out.inst (i:=m) (by rw [YL.out];exact hlt)
      have e1:gi=g9:=by injection ev with q1;injection q1 with q1;injection q1
      subst e1
      have e2:gn=h9:=by
       have h:=cb.cell i2 (by have:=hb.out;have:=QI.out;simp;omega)
       rw [j2] at h
       injection h with h
       injection h with h
       injection h with h
       injection h with h
       exact h.symm
      subst e2
      have SN:=hideIt SETN
      have QN:=hideIt qn'
      clear ev hy cb h_ c_ rb SETN hne qi qn' i0 i1 i2 i3 li fi ln fn qn
      (try go_wp2_with fail)
      refine hK.out _ _ ?_ (fun hh1=>?_)
      ·(try dsimp only);refine HK.out _ ?_;(repeat with_reducible (first|exact gg|exact Chg.refl _ _|refine Chg.drew ?_|refine Chg.alloc ?_ _|refine Chg.setCell ?_ (by simp) _))
      clear hK K hh0
      try simp only [Act.put,List.setIfInBounds_toArray,List.set_cons_zero,List.set_cons_succ]
      refine regTk 10 hh1 ?_
      refine regTk 11 hh1 ?_
      refine regCall 12 (fun K hK=>?_)
      go_simp
      (try go_wp2_with fail)
      refine hK.out _ _ ?_ (fun hh2=>?_)
      ·(try dsimp only);refine HK.out _ ?_;(repeat with_reducible (first|exact gg|exact Chg.refl _ _|refine Chg.drew ?_|refine Chg.alloc ?_ _|refine Chg.setCell ?_ (by simp) _))
      clear hK K hh1
      try simp only [Act.put,List.setIfInBounds_toArray,List.set_cons_zero,List.set_cons_succ]
      refine wpAnyH_done (by kernel_rfl) ?_ _
      clear hh2 HK
      go_wp2
      have hc9:Chg [gn] u9 (u9.setCell ⟨gn,0,none⟩ (.int .i64 (1+r))):=(Chg.refl _ _).setCell (by simp) _
      have FR9:=hideIt (FR.out.chg hc9 (fun g hg=>by
       simp at hg
       subst hg
       have:=QN.out
       refine ⟨by omega,fun q hq=>?_⟩
       simp only [List.mem_cons,List.not_mem_nil,or_false] at hq
       rcases hq with rfl|rfl|rfl|rfl|rfl<;>(dsimp only;omega)))
      have DF9:=hideIt (SN.out (1+r))
      have YL9:Hid ((ys.set m { y with nets:=y.nets.set 0 (1+r) }).length=xs.length):=hideIt (by rw [List.length_set];exact YL.out)
      clear hc9
      go_roundw
      case rel=>exact ⟨m+1,_,by go_num,by omega,YL9,FR9,DF9⟩
      case measure=>simp [intOf];omega
    ·have kex:¬(m:Int)<(xs.length:Int):=by omega
     have KD:=hideIt (FR.out.2.2.1 ((w.heap.size+1+1),31,#[.slice none 0 0,.slice (some ⟨(w.heap.size+1),0,none⟩) 3 3,.slice (some ⟨(w.heap.size+1+1+1),0,none⟩) 3 3]) (by simp)).1
     have KP:=hideIt (FR.out.2.2.1 ((w.heap.size+1+1+1),74,#[.string ⟨#[99,107]⟩,.int .i64 1,.int .i64 0,.string ⟨#[97]⟩,.int .i64 1,.int .i64 1,.string ⟨#[98]⟩,.int .i64 1,.int .i64 2]) (by simp)).1
     have own0:Hid ((wr.alloc (.cells #[] 74)).ownsRow wr.heap.size 74 3 (.slice (some ⟨wr.heap.size,0,none⟩) 0 0) 0 []):=hideIt ⟨rfl,.inr ⟨_,0,#[],rfl,Nat.le_refl _,Blk.new wr _ _,Nat.le_refl _,Nat.zero_le _,rfl,rfl⟩⟩
     have NEWS:Hid (∀(j:Nat) (u:Value),[Value.string ⟨#[99,107]⟩,.int .i64 1,.int .i64 0,.string ⟨#[97]⟩,.int .i64 1,.int .i64 1,.string ⟨#[98]⟩,.int .i64 1,.int .i64 2][j]?=some u→(wr.alloc (.cells #[] 74)).cell? ((⟨(w.heap.size+1+1+1),0,none⟩:Addr).add j)=some u):=hideIt (fun j u hj=>by
      have h:=(KP.out.grows ((Grows.refl wr).alloc (.cells #[] 74))).cell j
      rcases j with _|j
      ·simpa [Addr.add,h] using hj
      ·simpa [Addr.add,h] using hj)
     have fD:=KD.out.frozen
     have lD:=KD.out.lt
     have d0:=KD.out.cell 0
     have d1:=KD.out.cell 1
     have d2:=KD.out.cell 2
     simp at d0 d1 d2
     go_wp2_with (at_builtin;go_loud (refine wpList_append_own_at _ rfl _ _ 29 rfl wr.heap.size 74 iP (.agg #[.string .empty,.int .i64 0,.int .i64 0]) 3 iP.bytes Tryz.underlying29 hiP hzP hsP rfl rfl (by decide) (.slice (some ⟨wr.heap.size,0,none⟩) 0 0) 0 [] rfl own0.out ⟨(w.heap.size+1+1+1),0,none⟩ 3 3 [.string ⟨#[99,107]⟩,.int .i64 1,.int .i64 0,.string ⟨#[97]⟩,.int .i64 1,.int .i64 1,.string ⟨#[98]⟩,.int .i64 1,.int .i64 2] rfl rfl NEWS.out (by intro u hu;simp at hu;rcases hu with rfl|rfl|rfl|rfl|rfl|rfl|rfl|rfl<;>rfl) (by decide) (by omega) (by simp) ?_))
     intro vp wp hrow hgrow hnil hat
     have bwr:Hid (b<wr.heap.size):=hideIt FR.out.1.ge.2.2
     obtain ⟨pss,prow⟩:=ORow.ports (ps:=[(⟨⟨#[99,107]⟩,1,0⟩:PortD),⟨⟨#[97]⟩,1,1⟩,⟨⟨#[98]⟩,1,2⟩]) hrow (by intro p hp;simp at hp;rcases hp with rfl|rfl|rfl<;>(dsimp only;decide))
     have RP:Hid (RowSt 3 74 OPortB w0 wr b vp [(⟨⟨#[99,107]⟩,1,0⟩:PortD),⟨⟨#[97]⟩,1,1⟩,⟨⟨#[98]⟩,1,2⟩] wp):=hideIt ⟨⟨pss,prow⟩,(FR.out.1.alloc (.cells #[] 74)).grown hgrow (fun k e=>by have e':wr.heap.size=k:=(by injection e);have:=bwr.out;omega),((Chg.refl [b] wr).alloc (.cells #[] 74)).grown hgrow (fun k e=>.inr (Nat.le_of_eq (by injection e)))⟩
     obtain ⟨A7,c7,ev⟩:=RP.out.slice
     have ev2:vp=.slice A7 3 c7:=ev
     clear ev
     subst ev2
     clear prow hrow hgrow hnil hat own0 NEWS KD KP fD lD d0 d1 d2
     go_wp2_with (at_builtin;go_loud (refine wpList_append_st rfl _ _ 29 rfl Tryz.underlying29 hiP hzP hsP hbP rfl (by decide) rfl RP.out bwr.out (fun _ _ _ _ _ h _=>h) ((Chg.refl _ _).alloc _) (RP.out.2.1.alloc _) ⟨wp.heap.size,0,none⟩ 1 [.string ⟨#[121]⟩,.int .i64 2,.int .i64 ((ns.length:Int) - 1)] ⟨⟨#[121]⟩,2,(ns.length:Int) - 1⟩ [] rfl rfl (cells_new _ _ _) (by intro u hu;simp at hu;rcases hu with rfl|rfl|rfl<;>rfl) (by decide) ⟨rfl,by dsimp only;decide,rfl⟩ Own.nil ?_))
     intro vq wq r1 r2
     have RQ:=hideIt r1
     obtain ⟨A8,c8,ev⟩:=r1.slice
     have ev2:vq=.slice A8 4 c8:=ev
     clear ev
     subst ev2
     clear r1 r2 RP
     go_wp2_with fail
     refine (l01Next_any (w0:=w0) 2 RQ.out.2.1).mono ?_
     rintro e wt ⟨r,rfl,ra,rb,h_,c_⟩
     have RT:=hideIt (RQ.out.next bwr.out c_ h_ (fun _ _ _ _ _ h _=>h))
     clear h_ c_ rb RQ
     have FZ:Hid (∀(u:World) (ps:List PortD) (v:Value),RowSt 3 74 OPortB w0 wr b v ps u→Fr [(w.heap.size,31,#[.slice none 0 0,.slice none 0 0,.slice none 0 0]),((w.heap.size+1),9,#[.string ⟨#[110,99,107]⟩,.string ⟨#[110,97]⟩,.string ⟨#[110,98]⟩]),((w.heap.size+1+1),31,#[.slice none 0 0,.slice (some ⟨(w.heap.size+1),0,none⟩) 3 3,.slice (some ⟨(w.heap.size+1+1+1),0,none⟩) 3 3]),((w.heap.size+1+1+1),74,#[.string ⟨#[99,107]⟩,.int .i64 1,.int .i64 0,.string ⟨#[97]⟩,.int .i64 1,.int .i64 1,.string ⟨#[98]⟩,.int .i64 1,.int .i64 2]),((w.heap.size+1+1+1+1),2,#[.int .i64 2,.int .i64 2,.int .i64 3,.int .i64 3,.int .i64 4,.int .i64 3,.int .i64 3,.int .i64 3])] w0 w b u):=hideIt (fun u ps v h=>FR.out.next h.2.2 h.2.1)
     have key:Hid (∀(A:Option Addr) (c:Nat) (ps:List PortD) (u w9:World),RowSt 3 74 OPortB w0 wr b (.slice A ps.length c) ps u→3≤ps.length→ps.length≤5→Chg [w.heap.size] u w9→DesPost w0 w b (.returned (.agg #[.slice Ai xs.length ci,.slice An ns.length cn,.slice A ps.length c])) w9):=hideIt (fun A c ps u w9 hr h3 h5 c9=>by
      obtain ⟨⟨pss,hp⟩,hs,hc⟩:=hr
      have q1:=FR.out.2.1.size
      have q2:=hb.out
      have hf:=FR.out.next hc hs
      have hp9:=hp.chg c9 (fun g hg=>by simp at hg;have:=(FR.out.2.2.1 (w.heap.size,31,#[.slice none 0 0,.slice none 0 0,.slice none 0 0]) (by simp)).1.lt;dsimp only at this;omega) (fun w' _ _ _ h _=>h)
      refine ⟨wr.heap.size,Ai,ci,An,cn,A,c,ys,ns,ps,_,by rw [YL.out],?_,hp9.list,hp9.own,q1,by rw [YL.out];exact hx2,⟨nl9.2,nl9.1⟩,⟨h3,h5⟩,hs.chg c9 (by simp;omega) (fun g hg=>by simp at hg;have:=HG.out;omega),?_⟩
      ·have h:=((DX.out.imp (Q':=fun q=>(w.heap.size+1+1+1+1)<q∧q<wr.heap.size) (fun q hl hq=>⟨hq,hl⟩)).next hc (fun q hq=>by simp at hq;subst hq;intro h;have:=h.1;omega)).next c9 (fun q hq=>by simp at hq;subst hq;intro h;have:=h.1;omega)
       rw [YL.out]
       exact h.imp (fun q hl hq=>⟨by have:=hq.1;omega,hq.2⟩)
      ·exact ⟨c9.os.trans hf.2.1.os,c9.tape.trans hf.2.1.tape,c9.output.trans hf.2.1.output,Nat.le_trans hf.2.1.size c9.size,fun q hq hn=>(c9.block q (Nat.lt_of_lt_of_le hq hf.2.1.size) (by simp;omega)).trans (hf.2.1.block q hq hn)⟩)
     by_cases h0:r=0
     ·subst h0
      go_wp2_with fail
      refine (l01Next_any (w0:=w0) ((ns.length:Int) - 1) RT.out.2.1).mono ?_
      rintro e wu ⟨rz,rfl,rza,rzb,h_,c_⟩
      have rzc:=rzb (by omega)
      have ewz:IntKind.i64.wrap (1+rz)=1+rz:=IntWalk.i64_in _ (by omega)
      have RU:=hideIt (RT.out.next bwr.out c_ h_ (fun _ _ _ _ _ h _=>h))
      clear h_ c_ rzb RT
      go_wp2_with (at_builtin;go_loud (refine wpList_append_st rfl _ _ 29 rfl Tryz.underlying29 hiP hzP hsP hbP rfl (by decide) rfl RU.out bwr.out (fun _ _ _ _ _ h _=>h) ((Chg.refl _ _).alloc _) (RU.out.2.1.alloc _) ⟨wu.heap.size,0,none⟩ 1 [.string ⟨#[122]⟩,.int .i64 2,.int .i64 (1+rz)] ⟨⟨#[122]⟩,2,1+rz⟩ [] rfl rfl (cells_new _ _ _) (by intro u hu;simp at hu;rcases hu with rfl|rfl|rfl<;>rfl) (by simp) ⟨rfl,by dsimp only;decide,rfl⟩ Own.nil ?_))
      intro vv wv r1 r2
      have RV:=hideIt r1
      obtain ⟨A9,c9,ev⟩:=r1.slice
      have ev2:vv=.slice A9 5 c9:=ev
      clear ev
      subst ev2
      clear r1 r2 RU
      have KR:=hideIt ((FZ.out _ _ _ RV.out).2.2.1 (w.heap.size,31,#[.slice none 0 0,.slice none 0 0,.slice none 0 0]) (by simp)).1
      have fR:=KR.out.frozen
      have lR:=KR.out.lt
      have z0:=KR.out.cell 0
      have z1:=KR.out.cell 1
      have z2:=KR.out.cell 2
      simp at z0 z1 z2
      go_wp2
      refine bodyPost_ret (by simp [*,results,Tryz.results78,go_sem];try rfl) rfl ?_
      refine key.out A9 c9 ([⟨⟨#[99,107]⟩,1,0⟩,⟨⟨#[97]⟩,1,1⟩,⟨⟨#[98]⟩,1,2⟩,⟨⟨#[121]⟩,2,(ns.length:Int) - 1⟩,⟨⟨#[122]⟩,2,1+rz⟩]) wv _ RV.out (by simp) (by simp) ?_
      repeat with_reducible (first|exact Chg.refl _ _|refine Chg.setCell ?_ (by simp) _)
     ·have h02:(r==0)=false:=by simpa using h0
      have KR:=hideIt ((FZ.out _ _ _ RT.out).2.2.1 (w.heap.size,31,#[.slice none 0 0,.slice none 0 0,.slice none 0 0]) (by simp)).1
      have fR:=KR.out.frozen
      have lR:=KR.out.lt
      have z0:=KR.out.cell 0
      have z1:=KR.out.cell 1
      have z2:=KR.out.cell 2
      simp at z0 z1 z2
      go_wp2
      refine bodyPost_ret (by simp [*,results,Tryz.results78,go_sem];try rfl) rfl ?_
      refine key.out A8 c8 ([⟨⟨#[99,107]⟩,1,0⟩,⟨⟨#[97]⟩,1,1⟩,⟨⟨#[98]⟩,1,2⟩,⟨⟨#[121]⟩,2,(ns.length:Int) - 1⟩]) wt _ RT.out (by simp) (by simp) ?_
      repeat with_reducible (first|exact Chg.refl _ _|refine Chg.setCell ?_ (by simp) _)
end Go.Proofs.YtlnpefiipdkafaaGreatDoor
