/-
  A region that draws its order and whose last operation writes what the others read: the condition is asked of every world ahead of that one.
-/
import Derived.Test.YtlnpefiipdkafaaGreatDoorGJ
import Derived.Test.YtlnpefiipdkafaaGreatDoorL5B
import Derived.Test.YtlnpefiipdkafaaGreatDoorGB
import Derived.Test.YtlnpefiipdkafaaGreatDoorHG
import Derived.OwnWalk
import Derived.Test.YtlnpefiipdkafaaGreatDoorHM
namespace Go.Proofs.YtlnpefiipdkafaaGreatDoor
open Go.RowKit
section
variable {P:Program} {ops:Array Oper} {Q:Exit→Act→World→Prop} {md:Region.Mode} {S:World→Prop} {k:Nat}
def wpAnyL (P:Program) (md:Region.Mode) (ops:Array Oper) (Q:Exit→Act→World→Prop) (S:World→Prop) (k:Nat):Nat→Array Bool→Act→World→Prop
 | 0,listed,a,w=>Region.ready md ops listed=[]∧Q .normal a w
 | fuel+1,listed,a,w =>
  (Region.ready md ops listed=[]→Q .normal a w) ∧
  ∀i∈Region.ready md ops listed,wpOp P ops Q i (fun a' w'=>(i≠k→S w')∧wpAnyL P md ops Q S k fuel (listed.setIfInBounds i true) a' w') a w
theorem wpAny_of_L:∀(fuel:Nat) (listed:Array Bool) (a:Act) (w:World),wpAnyL P md ops Q S k fuel listed a w→wpAny P md ops Q fuel listed a w
 | 0,_,_,_,h=>h
 | fuel+1,_,_,_,h=>⟨h.1,fun i hi=>wpOp_mono (fun a' w' h'=>wpAny_of_L fuel _ a' w' h'.2) (h.2 i hi)⟩
/-- operation k waits for operation i -/
def waitsB (md:Region.Mode) (ops:Array Oper) (k i:Nat):Bool :=
 match ops[k]? with
 | some o=>o.after.toList.any fun e=>Region.binds md e&&e.on==i
 | none=>false
theorem wpAnyL_first {i:Nat} {oi:Oper} {v:Value} (hi:ops[i]?=some oi) (hik:i≠k) (hwt:waitsB md ops k i=true) (hsel:∀(j:Nat) (o:Oper) cs b,ops[j]?=some o→o.op≠.select cs b)
  (hQ:∀c a w,Q (.panic c) (a.put oi.dst v) w→Q (.panic c) a w) :
  ∀(fuel:Nat) (listed:Array Bool) (a:Act) (w:World),
   (∀j oj,ops[j]?=some oj→j≠i→listed.getD j true=false→(∀e∈oj.after,Region.binds md e=true→e.on≠i)→oi.apart ops oj=true) →
   i∈Region.ready md ops listed→YieldsIf P ops S oi v a→S w →
   wpAnyL P md ops Q S k fuel (listed.setIfInBounds i true) (a.put oi.dst v) w→wpAnyL P md ops Q S k (fuel+1) listed a w:=by
 intro fuel
 induction fuel with
 | zero =>
  intro listed a w _ hr hy hS H
  refine ⟨fun h=>(by rw [h] at hr;cases hr),fun j hj=>?_⟩
  by_cases hji:j=i
  ·subst hji;exact hy.wpOp hi hS ⟨fun _=>hS,H⟩
  ·have:=ready_mono hj hji
   rw [H.1] at this
   cases this
 | succ fuel ih =>
  intro listed a w hfree hr hy hS H
  refine ⟨fun h=>(by rw [h] at hr;cases hr),fun j hj=>?_⟩
  by_cases hji:j=i
  ·subst hji;exact hy.wpOp hi hS ⟨fun _=>hS,H⟩
  ·have h1:=H.2 j (ready_mono hj hji)
   obtain ⟨hjun,oj,hoj,hall⟩:=mem_ready.1 hj
   have hnot:∀e∈oj.after,Region.binds md e=true→e.on≠i:=fun e he hb heq=>by
    have h1:=hall e he hb
    have h0:=(mem_ready.1 hr).1
    rw [heq] at h1
    rcases Nat.lt_or_ge i listed.size with h'|h'
    ·simp [h'] at h0 h1;rw [h0] at h1;cases h1
    ·simp [Array.getElem?_eq_none h'] at h1
   have hjk:j≠k:=fun e=>by
    subst e
    unfold waitsB at hwt
    rw [hoj] at hwt
    simp only [List.any_eq_true,Bool.and_eq_true,beq_iff_eq] at hwt
    obtain ⟨e,he,hb,ho⟩:=hwt
    exact hnot e (Array.mem_toList_iff.1 he) hb ho
   have h2:=wpOp_putIf hoj (hfree j oj hoj hji hjun hnot) (fun cs b=>hsel i oi cs b hi) (fun cs b=>hsel j oj cs b hoj) hQ hy h1
   have hfree':∀k ok,ops[k]?=some ok→k≠i→(listed.setIfInBounds j true).getD k true=false →
     (∀e∈ok.after,Region.binds md e=true→e.on≠i)→oi.apart ops ok=true:=fun k ok hk hki hun hno=>by
    refine hfree k ok hk hki ?_ hno
    by_cases hjk:j=k
    ·subst hjk;exact hjun
    ·rw [getD_set_ne true hjk] at hun;exact hun
   refine wpOp_mono (fun a' w' h3=>⟨h3.2.1,ih (listed.setIfInBounds j true) a' w' hfree' (ready_mono hr (Ne.symm hji)) h3.1 (h3.2.1 hjk) ?_⟩) h2
   rw [Array.setIfInBounds_comm _ _ hji]
   exact h3.2.2
theorem wp_region_L {id:Nat} {a:Act} {w:World} (hm:P.follows .mixedOrders=true) (hS:S w.drew)
  (h:S w.drew→wpAnyL P .any ops Q S k ops.size (Array.replicate ops.size false) a w.drew):(Code.region id ops true).wp P Q a w :=
 wp_region_any hm (wpAny_of_L _ _ _ _ (h hS))
theorem wpAnyL_done {listed:Array Bool} {a:Act} {w:World} (hr:Region.ready md ops listed=[]) (h:Q .normal a w):∀fuel,wpAnyL P md ops Q S k fuel listed a w
 | 0=>⟨hr,h⟩
 | _+1=>⟨fun _=>h,by rw [hr];simp⟩
end
section
variable {P:Program} {l:List Oper} {Q:Exit→Act→World→Prop} {S:World→Prop} {k:Nat}
theorem ltTake (i:Nat) {oi:Oper} {v:Value} {fuel:Nat} {listed:Array Bool} {a:Act} {w:World}
  (hv:∀w,S w→(execOp a.eval oi).run P w=.ok (.value v) w) (hS:S w)
  (h:wpAnyL P .any l.toArray Q S k fuel (listed.setIfInBounds i true) (a.put oi.dst v) w) (hi:l[i]?=some oi:=by rfl)
  (hs:Region.noSelect l.toArray=true:=by kernel_rfl) (hf:Region.free .any l.toArray listed i=true:=by kernel_rfl) (hr:(Region.ready .any l.toArray listed).contains i=true:=by kernel_rfl)
  (hQ:∀c a w,Q (.panic c) (a.put oi.dst v) w→Q (.panic c) a w:=by exact fun _ _ _ h=>h) (hw:Region.wanted oi (yielded l.toArray a.tmps)=true:=by rfl) (hk:i≠k:=by decide) (hwt:waitsB .any l.toArray k i=true:=by kernel_rfl):wpAnyL P .any l.toArray Q S k (fuel+1) listed a w :=
 wpAnyL_first (by simpa using hi) hk hwt (Region.noSelect_spec hs) hQ fuel listed a w (Region.free_spec (by simpa using hi) hf) (by simpa using hr) (Or.inl ⟨hw,hv⟩) hS h
theorem ltSkip (i:Nat) {oi:Oper} {fuel:Nat} {listed:Array Bool} {a:Act} {w:World} (hS:S w)
  (h:wpAnyL P .any l.toArray Q S k fuel (listed.setIfInBounds i true) (a.put oi.dst undef) w) (hi:l[i]?=some oi:=by rfl)
  (hs:Region.noSelect l.toArray=true:=by kernel_rfl) (hf:Region.free .any l.toArray listed i=true:=by kernel_rfl) (hr:(Region.ready .any l.toArray listed).contains i=true:=by kernel_rfl)
  (hQ:∀c a w,Q (.panic c) (a.put oi.dst undef) w→Q (.panic c) a w:=by exact fun _ _ _ h=>h) (hw:Region.wanted oi (yielded l.toArray a.tmps)=false:=by rfl) (hk:i≠k:=by decide) (hwt:waitsB .any l.toArray k i=true:=by kernel_rfl):wpAnyL P .any l.toArray Q S k (fuel+1) listed a w :=
 wpAnyL_first (by simpa using hi) hk hwt (Region.noSelect_spec hs) hQ fuel listed a w (Region.free_spec (by simpa using hi) hf) (by simpa using hr) (Or.inr ⟨hw,rfl⟩) hS h
theorem ltCall (i:Nat) {o:Oper} {fuel:Nat} {listed:Array Bool} {a:Act} {w:World}
  (h:∀K':Act→World→Prop,Shut (∀a w,S w→(S w→wpAnyL P .any l.toArray Q S k fuel (listed.setIfInBounds i true) a w)→K' a w)→Oper.wp P o a w K' Q) (hi:l[i]?=some o:=by rfl) (hr:Region.ready .any l.toArray listed=[i]:=by kernel_rfl)
  (hw:Region.wanted o (yielded l.toArray a.tmps)=true:=by rfl):wpAnyL P .any l.toArray Q S k (fuel+1) listed a w:=by
 refine ⟨fun h0=>(by rw [hr] at h0;cases h0),fun j hj=>?_⟩
 rw [hr] at hj
 simp only [List.mem_singleton] at hj
 subst hj
 refine wpOp_step (o:=o) (by simpa using hi) (fun K' hK=>?_)
 rw [if_pos hw]
 exact h K' (fun a w hS hW=>hK a w ⟨fun _=>hS,hW hS⟩)
theorem ltLast {o:Oper} {fuel:Nat} {listed:Array Bool} {a:Act} {w:World}
  (h:∀K':Act→World→Prop,Shut (∀a w,wpAnyL P .any l.toArray Q S k fuel (listed.setIfInBounds k true) a w→K' a w)→Oper.wp P o a w K' Q) (hi:l[k]?=some o:=by rfl) (hr:Region.ready .any l.toArray listed=[k]:=by kernel_rfl)
  (hw:Region.wanted o (yielded l.toArray a.tmps)=true:=by rfl):wpAnyL P .any l.toArray Q S k (fuel+1) listed a w:=by
 refine ⟨fun h0=>(by rw [hr] at h0;cases h0),fun j hj=>?_⟩
 rw [hr] at hj
 simp only [List.mem_singleton] at hj
 subst hj
 refine wpOp_step (o:=o) (by simpa using hi) (fun K' hK=>?_)
 rw [if_pos hw]
 exact h K' (fun a w hW=>hK a w ⟨fun h=>absurd rfl h,hW⟩)
theorem ltTk (i:Nat) {oi:Oper} {v:Value} {fuel:Nat} {listed:Array Bool} {a a':Act} {w:World} (hS:S w)
  (h:wpAnyL P .any l.toArray Q S k fuel (listed.setIfInBounds i true) a' w) (hi:l[i]?=some oi:=by rfl)
  (hv:∀w,S w→(execOp a.eval oi).run P w=.ok (.value v) w:=by intro w hw;(try dsimp only at hw);go_simp;(try with_reducible rfl))
  (ha:a.put oi.dst v=a':=by (try simp only [Act.put,List.setIfInBounds_toArray,List.set_cons_zero,List.set_cons_succ]);with_reducible rfl)
  (hs:Region.noSelect l.toArray=true:=by kernel_rfl) (hf:Region.free .any l.toArray listed i=true:=by kernel_rfl) (hr:(Region.ready .any l.toArray listed).contains i=true:=by kernel_rfl)
  (hQ:∀c a w,Q (.panic c) (a.put oi.dst v) w→Q (.panic c) a w:=by exact fun _ _ _ h=>h) (hw:Region.wanted oi (yielded l.toArray a.tmps)=true:=by rfl) (hk:i≠k:=by decide) (hwt:waitsB .any l.toArray k i=true:=by kernel_rfl):wpAnyL P .any l.toArray Q S k (fuel+1) listed a w:=by
 subst ha
 exact ltTake i hv hS h hi hs hf hr hQ hw hk hwt
theorem ltSk (i:Nat) {oi:Oper} {fuel:Nat} {listed:Array Bool} {a a':Act} {w:World} (hS:S w)
  (h:wpAnyL P .any l.toArray Q S k fuel (listed.setIfInBounds i true) a' w) (hi:l[i]?=some oi:=by rfl)
  (ha:a.put oi.dst undef=a':=by (try simp only [Act.put,List.setIfInBounds_toArray,List.set_cons_zero,List.set_cons_succ]);with_reducible rfl)
  (hs:Region.noSelect l.toArray=true:=by kernel_rfl) (hf:Region.free .any l.toArray listed i=true:=by kernel_rfl) (hr:(Region.ready .any l.toArray listed).contains i=true:=by kernel_rfl)
  (hQ:∀c a w,Q (.panic c) (a.put oi.dst undef) w→Q (.panic c) a w:=by exact fun _ _ _ h=>h) (hw:Region.wanted oi (yielded l.toArray a.tmps)=false:=by rfl) (hk:i≠k:=by decide) (hwt:waitsB .any l.toArray k i=true:=by kernel_rfl):wpAnyL P .any l.toArray Q S k (fuel+1) listed a w:=by
 subst ha
 exact ltSkip i hS h hi hs hf hr hQ hw hk hwt
end
end Go.Proofs.YtlnpefiipdkafaaGreatDoor
/-
  A drawn wire.
-/
namespace Go.Proofs.YtlnpefiipdkafaaGreatDoor
open Go.RowKit
theorem row_setL {w:World} {base g c n:Nat} {t:TypeId} {xs:List Value} (h:w.ownsRow base t 1 (.slice (some ⟨g,0,none⟩) n c) n xs) (i:Nat) (v:Value):(w.setCell ⟨g,i,none⟩ v).ownsRow base t 1 (.slice (some ⟨g,0,none⟩) n c) n (xs.set i v) :=
 ownsRow_up (row_set (ownsRow_base h (Nat.zero_le _)) i v) (fun k e=>by injection e with e;subst e;exact (own_ge h g rfl).1)
/-- an own row of integers -/
def RowI (lo:Nat) (u:World) (v:Value) (xs:List Int):Prop:=u.ownsRow lo 2 1 v xs.length (xs.map (Value.int .i64))
theorem RowI.chg {lo:Nat} {u u':World} {v:Value} {xs:List Int} {ds:List Nat} (h:RowI lo u v xs) (c:Chg ds u u') (hd:∀g∈ds,g<lo):RowI lo u' v xs:=ownsRow_chg h c hd
theorem RowI.up {lo lo':Nat} {u:World} {v:Value} {xs:List Int} (h:RowI lo u v xs) (hl:∀k,v.ownBlock=some k→lo'≤k):RowI lo' u v xs:=ownsRow_up h hl
/-- a wire, its four rows its own -/
def WSt (lo:Nat) (u:World) (x:WireD) (g0 c0 g1 c1 g2 c2 g3 c3:Nat):Prop :=
 RowI lo u (.slice (some ⟨g0,0,none⟩) x.parent.length c0) x.parent∧RowI lo u (.slice (some ⟨g1,0,none⟩) x.res.length c1) x.res∧RowI lo u (.slice (some ⟨g2,0,none⟩) x.cap.length c2) x.cap∧RowI lo u (.slice (some ⟨g3,0,none⟩) x.sink.length c3) x.sink∧[g0,g1,g2,g3].Nodup ∧
  (1≤x.parent.length∧x.parent.length≤8)∧x.res.length=x.parent.length∧x.cap.length=x.parent.length∧x.sink.length≤200
theorem WSt.chg {lo:Nat} {u u':World} {x:WireD} {g0 c0 g1 c1 g2 c2 g3 c3:Nat} {ds:List Nat} (h:WSt lo u x g0 c0 g1 c1 g2 c2 g3 c3) (c:Chg ds u u') (hd:∀g∈ds,g<lo):WSt lo u' x g0 c0 g1 c1 g2 c2 g3 c3:=by
 obtain ⟨h0,h1,h2,h3,h4⟩:=h
 exact ⟨h0.chg c hd,h1.chg c hd,h2.chg c hd,h3.chg c hd,h4⟩
theorem WSt.low {lo lo':Nat} {u:World} {x:WireD} {g0 c0 g1 c1 g2 c2 g3 c3:Nat} (h:WSt lo u x g0 c0 g1 c1 g2 c2 g3 c3) (hl:lo'≤lo):WSt lo' u x g0 c0 g1 c1 g2 c2 g3 c3:=by
 obtain ⟨h0,h1,h2,h3,h4⟩:=h
 exact ⟨ownsRow_base h0 hl,ownsRow_base h1 hl,ownsRow_base h2 hl,ownsRow_base h3 hl,h4⟩
theorem WSt.lt {lo:Nat} {u:World} {x:WireD} {g0 c0 g1 c1 g2 c2 g3 c3:Nat} (h:WSt lo u x g0 c0 g1 c1 g2 c2 g3 c3):(lo≤g0∧g0<u.heap.size)∧(lo≤g1∧g1<u.heap.size)∧(lo≤g2∧g2<u.heap.size)∧(lo≤g3∧g3<u.heap.size):=by
 obtain ⟨h0,h1,h2,h3,h4⟩:=h
 exact ⟨own_ge h0 g0 rfl,own_ge h1 g1 rfl,own_ge h2 g2 rfl,own_ge h3 g3 rfl⟩
/-- a cell of the sinks' row is written -/
theorem WSt.sink {lo i:Nat} {u:World} {x:WireD} {g0 c0 g1 c1 g2 c2 g3 c3:Nat} {z:Int} (h:WSt lo u x g0 c0 g1 c1 g2 c2 g3 c3):WSt lo (u.setCell ⟨g3,i,none⟩ (.int .i64 z)) { x with sink:=x.sink.set i z } g0 c0 g1 c1 g2 c2 g3 c3:=by
 obtain ⟨h0,h1,h2,h3,h4,h5⟩:=h
 have c:Chg [g3] u (u.setCell ⟨g3,i,none⟩ (.int .i64 z)):=(Chg.refl _ _).setCell (by simp) _
 have key:∀{g cc:Nat} {xs:List Int},g≠g3→RowI lo u (.slice (some ⟨g,0,none⟩) xs.length cc) xs→RowI lo (u.setCell ⟨g3,i,none⟩ (.int .i64 z)) (.slice (some ⟨g,0,none⟩) xs.length cc) xs:=fun hg h =>
  ownsRow_same h (c.same (fun q hq=>by simp [Value.ownBlock] at hq;subst hq;exact (own_ge h _ rfl).2) (fun q hq hm=>by simp [Value.ownBlock] at hq hm;omega))
 simp only [List.nodup_cons,List.mem_cons,List.not_mem_nil,or_false] at h4
 refine ⟨key (by omega) h0,key (by omega) h1,key (by omega) h2,?_,by simp;omega,h5.1,h5.2.1,h5.2.2.1,by simp;exact h5.2.2.2⟩
 have hr:=row_setL h3 i (.int .i64 z)
 unfold RowI
 rw [List.length_set,List.map_set]
 exact hr
set_option maxHeartbeats 1000000 in
set_option maxRecDepth 100000 in
theorem l02Ints_row {g o n c:Nat} {xs:List Int} (w:World) (hc:∀(j:Nat) (u:Value),(xs.map (Value.int .i64))[j]?=some u→w.cell? ((⟨g,o,none⟩:Addr).add j)=some u) (hl:n=xs.length) (hn:xs.length≤1000) :
  Calls Tryz.prog 94 #[.slice (some ⟨g,o,none⟩) n c] w fun e w'=>∃v:Value,e=.returned v∧RowI w.heap.size w' v xs∧Grows w w':=by
 obtain ⟨i0,hi,hz0,hz1,hz2⟩:=info_parts info_i64'
 have HC:=hideIt hc
 subst hl
 have G1:Hid (Grows w (w.alloc (.cells #[] 2))):=hideIt ((Grows.refl w).alloc _)
 have NEWS:Hid (∀(j:Nat) (u:Value),(xs.map (Value.int .i64))[j]?=some u→(w.alloc (.cells #[] 2)).cell? ((⟨g,o,none⟩:Addr).add j)=some u):=hideIt (fun j u hj=>G1.out.keeps _ _ (HC.out j u hj))
 have own0:Hid ((w.alloc (.cells #[] 2)).ownsRow w.heap.size 2 1 (.slice (some ⟨w.heap.size,0,none⟩) 0 0) 0 []) :=
  hideIt ⟨rfl,.inr ⟨w.heap.size,0,#[],rfl,Nat.le_refl _,Blk.new w _ _,Nat.le_refl _,Nat.zero_le _,rfl,rfl⟩⟩
 clear hc
 go_enter Tryz.func94,Tryz.ntmps94
 go_wp2_with (at_builtin;go_loud (refine wpList_append_own_at _ rfl _ _ 39 rfl w.heap.size 2 i0 (.int .i64 0) 1 8 Tryz.underlying39 hi hz0 hz1 hz2 rfl (by decide) (.slice (some ⟨w.heap.size,0,none⟩) 0 0) 0 [] rfl own0.out ⟨g,o,none⟩ xs.length c (xs.map (Value.int .i64)) rfl (by simp) NEWS.out (by intro u hu;obtain ⟨x,-,rfl⟩:=List.mem_map.1 hu;rfl) (by unfold maxLen;omega) (by omega) G1.out.size ?_))
 intro v' w1 hown hgrow hnil hat
 have G2:=hideIt (G1.out.grown hgrow (fun k e=>Nat.le_of_eq (by injection e)))
 have HR:Hid (RowI w.heap.size w1 v' xs):=hideIt (by simpa [RowI] using hown)
 clear hown hgrow hnil hat
 go_wp2
 go_ret
 exact ⟨_,rfl,HR.out,G2.out⟩
theorem row_zero (w:World) (n:Nat) (hn:n≤1000):RowI w.heap.size (w.alloc (.cells (madeCells #[.int .i64 0] n) 2)) (.slice (some ⟨w.heap.size,0,none⟩) (List.replicate n (0:Int)).length n) (List.replicate n 0):=by
 have e:(madeCells #[Value.int .i64 0] n).toList=(List.replicate n (0:Int)).map (Value.int .i64):=by
  refine List.ext_getElem? fun j=>?_
  by_cases hj:j<n
  ·simp [madeCells,hj,Nat.mod_one]
  ·simp [madeCells,hj]
 have h:=World.ownsRow_lit w (madeCells #[.int .i64 0] n) n (e:=2) (size:=1) (Nat.le_refl w.heap.size) (by unfold maxLen;omega) (by simp [madeCells])
 unfold RowI
 rw [←e]
 simpa using h
theorem row_one (w:World) (z:Int):RowI w.heap.size (w.alloc (.cells #[.int .i64 z] 2)) (.slice (some ⟨w.heap.size,0,none⟩) 1 1) [z]:=World.ownsRow_lit w #[.int .i64 z] 1 (Nat.le_refl _) (by decide) rfl
set_option maxHeartbeats 4000000 in
set_option maxRecDepth 100000 in
theorem l07Lumped_any (n:Nat) (z:Int) (w:World) (hn:n≤200) :
  Calls Tryz.prog 132 #[.int .i64 (n:Int),.int .i64 z] w fun e w'=>∃(g0 c0 g1 c1 g2 c2 g3 c3:Nat) (x:WireD),e=.returned (.agg #[.slice (some ⟨g0,0,none⟩) x.parent.length c0,.slice (some ⟨g1,0,none⟩) x.res.length c1,.slice (some ⟨g2,0,none⟩) x.cap.length c2,.slice (some ⟨g3,0,none⟩) x.sink.length c3])∧WSt w.heap.size w' x g0 c0 g1 c1 g2 c2 g3 c3∧x.parent.length=1∧x.sink.length=n∧Grows w w':=by
 obtain ⟨j0,hj0,hy0,hy1,hy2⟩:=info_parts info_i64'
 have hmk:∀u:World,(Instr.makeSlice 39 (.int .i64 (n:Int)) (.int .i64 (n:Int))).run Tryz.prog u =
   .ok (.slice (some ⟨u.heap.size,0,none⟩) n n) (u.alloc (.cells (madeCells #[.int .i64 0] n) 2)):=fun u=>by
  have h:=run_make (P:=Tryz.prog) u 39 2 j0 (.int .i64 0) Tryz.underlying39 hj0 hy0 .i64 .i64 (n:Int) (n:Int) (by omega) (Int.le_refl _) (by rw [hy2];omega) (by omega)
  simpa [hy1,Value.cells] using h
 have K:∀(o:Obj) (u:World),u=(((((w.alloc o).alloc (.cells #[.int .i64 (-1)] 2)).alloc (.cells #[.int .i64 0] 2)).alloc (.cells #[.int .i64 z] 2)).alloc (.cells (madeCells #[.int .i64 0] n) 2)) →
   WSt (w.heap.size+1) u ⟨[-1],[0],[z],List.replicate n 0⟩ (w.heap.size+1) 1 (w.heap.size+1+1) 1 (w.heap.size+1+1+1) 1 (w.heap.size+1+1+1+1) n∧Grows w u:=fun o u eu=>by
  subst eu
  have r0:=row_one (w.alloc o) (-1)
  have r1:=row_one ((w.alloc o).alloc (.cells #[.int .i64 (-1)] 2)) 0
  have r2:=row_one (((w.alloc o).alloc (.cells #[.int .i64 (-1)] 2)).alloc (.cells #[.int .i64 0] 2)) z
  have r3:=row_zero ((((w.alloc o).alloc (.cells #[.int .i64 (-1)] 2)).alloc (.cells #[.int .i64 0] 2)).alloc (.cells #[.int .i64 z] 2)) n (by omega)
  have gg:Grows (w.alloc o) (((((w.alloc o).alloc (.cells #[.int .i64 (-1)] 2)).alloc (.cells #[.int .i64 0] 2)).alloc (.cells #[.int .i64 z] 2)).alloc (.cells (madeCells #[.int .i64 0] n) 2)):=((((Grows.refl _).alloc _).alloc _).alloc _).alloc _
  have l1:(w.alloc o).heap.size=w.heap.size+1:=by simp
  have gw:=((Grows.refl w).alloc o).trans gg 
  generalize w.alloc o=wa at *
  rw [l1] at r0
  have l2:(wa.alloc (.cells #[.int .i64 (-1)] 2)).heap.size=w.heap.size+1+1:=by simp [l1]
  rw [l2] at r1
  have l3:((wa.alloc (.cells #[.int .i64 (-1)] 2)).alloc (.cells #[.int .i64 0] 2)).heap.size=w.heap.size+1+1+1:=by simp [l1]
  rw [l3] at r2
  have l4:(((wa.alloc (.cells #[.int .i64 (-1)] 2)).alloc (.cells #[.int .i64 0] 2)).alloc (.cells #[.int .i64 z] 2)).heap.size=w.heap.size+1+1+1+1:=by simp [l1]
  rw [l4] at r3
  have key:∀{lo:Nat} {v:Value} {xs:List Int} {u0:World},RowI lo u0 v xs→w.heap.size+1≤lo→Grows u0 ((((wa.alloc (.cells #[.int .i64 (-1)] 2)).alloc (.cells #[.int .i64 0] 2)).alloc (.cells #[.int .i64 z] 2)).alloc (.cells (madeCells #[.int .i64 0] n) 2))→RowI (w.heap.size+1) ((((wa.alloc (.cells #[.int .i64 (-1)] 2)).alloc (.cells #[.int .i64 0] 2)).alloc (.cells #[.int .i64 z] 2)).alloc (.cells (madeCells #[.int .i64 0] n) 2)) v xs:=fun h hl g =>
   ownsRow_base ((RowI.chg h (Chg.of_grows (bs:=[]) g) (by simp))) hl
  exact ⟨⟨key r0 (by omega) ((((Grows.refl _).alloc _).alloc _).alloc _),key r1 (by omega) (((Grows.refl _).alloc _).alloc _),key r2 (by omega) ((Grows.refl _).alloc _),key r3 (by omega) (Grows.refl _),by simp,by simp,rfl,rfl,by simpa using hn⟩,gw⟩
 have HK:=hideIt K
 clear K
 go_enter Tryz.func132,Tryz.ntmps132
 go_wp2
 refine bodyPost_ret (by simp [*,results,Tryz.results132,go_sem];try rfl) rfl ?_
 exact ⟨_,_,_,_,_,_,_,_,⟨[-1],[0],[z],List.replicate n 0⟩,by simp,(HK.out _ _ rfl).1.low (by omega),rfl,by simp,(HK.out _ _ rfl).2⟩
theorem Fr.put {q0:Nat×TypeId×Array Value} {p:Nat} {t:TypeId} {cs cs':Array Value} {w0 w u u':World} {b:Nat} (h:Fr [q0,(p,t,cs)] w0 w b u) (c:Chg [p] u u') (hB:Blk u' p t cs') (hne:q0.1≠p):Fr [q0,(p,t,cs')] w0 w b u':=by
 obtain ⟨h1,h2,h3,h4,h5⟩:=h
 have hp:=(h3 (p,t,cs) (by simp)).2
 have h0:=h3 q0 (by simp)
 dsimp only at hp
 refine ⟨h1.chg c (by simp;omega) (fun g hg=>by simp at hg;omega),?_,fun q hq=>?_,h4,h5⟩
 ·exact ⟨c.os.trans h2.os,c.tape.trans h2.tape,c.output.trans h2.output,Nat.le_trans h2.size c.size,fun g hg hn=>(c.block g (Nat.lt_of_lt_of_le hg h2.size) (by simp;omega)).trans (h2.block g hg hn)⟩
 ·simp only [List.mem_cons,List.not_mem_nil,or_false] at hq
  rcases hq with rfl|rfl
  ·exact ⟨h0.1.chg c (by simp;exact hne),h0.2⟩
  ·exact ⟨hB,hp⟩
/-- what a drawn wire promises -/
def WirePost (w0 w:World) (b n:Nat) (e:Ending) (w':World):Prop :=
 ∃(g0 c0 g1 c1 g2 c2 g3 c3:Nat) (x:WireD),e=.returned (.agg #[.slice (some ⟨g0,0,none⟩) x.parent.length c0,.slice (some ⟨g1,0,none⟩) x.res.length c1,.slice (some ⟨g2,0,none⟩) x.cap.length c2,.slice (some ⟨g3,0,none⟩) x.sink.length c3])∧WSt w.heap.size w' x g0 c0 g1 c1 g2 c2 g3 c3∧x.sink.length=n∧SrcAt w0 w' b∧Chg [b] w w'
theorem wire_fin {bx:List (Nat×TypeId×Array Value)} {w0 w wz w9:World} {b n:Nat} {g0 c0 g1 c1 g2 c2 g3 c3:Nat} {x:WireD} {S:List Int} (hf:Fr bx w0 w b wz) (hw:WSt (w.heap.size+1) wz { x with sink:=S } g0 c0 g1 c1 g2 c2 g3 c3) (hs:S.length=x.sink.length) (hn:x.sink.length=n) (c9:Chg [w.heap.size] wz w9):WirePost w0 w b n (.returned (.agg #[.slice (some ⟨g0,0,none⟩) x.parent.length c0,.slice (some ⟨g1,0,none⟩) x.res.length c1,.slice (some ⟨g2,0,none⟩) x.cap.length c2,.slice (some ⟨g3,0,none⟩) x.sink.length c3])) w9:=by
 obtain ⟨h1,h2,h3,h4,h5⟩:=hf
 refine ⟨g0,c0,g1,c1,g2,c2,g3,c3,{ x with sink:=S },by rw [←hs],(hw.chg c9 (by simp)).low (by omega),by show S.length=n;omega,h1.chg c9 (by simp;omega) (fun g hg=>by simp at hg;omega),?_⟩
 exact ⟨c9.os.trans h2.os,c9.tape.trans h2.tape,c9.output.trans h2.output,Nat.le_trans h2.size c9.size,fun q hq hn=>(c9.block q (Nat.lt_of_lt_of_le hq h2.size) (by simp;omega)).trans (h2.block q hq hn)⟩
set_option maxHeartbeats 16000000 in
set_option maxRecDepth 10000 in
theorem l07DrawWire_any {w0 w:World} {b:Nat} (n:Nat) (hn:n≤200) (h:SrcAt w0 w b):Calls Tryz.prog 115 #[.pointer (some ⟨b,0,none⟩),.int .i64 (n:Int)] w (WirePost w0 w b n):=by
 have hb:Hid (b<w.heap.size):=hideIt h.ge.2.2
 have HG:Hid (w0.heap.size≤w.heap.size):=hideIt h.ge.2.1.size
 have HS:=hideIt (h.alloc (.cells #[.slice none 0 0,.slice none 0 0,.slice none 0 0,.slice none 0 0] 56))
 have HC:Hid (Chg [b] w (w.alloc (.cells #[.slice none 0 0,.slice none 0 0,.slice none 0 0,.slice none 0 0] 56))):=hideIt ((Chg.refl _ _).alloc _)
 have R0:=hideIt (Blk.new w 56 #[.slice none 0 0,.slice none 0 0,.slice none 0 0,.slice none 0 0])
 have NR:Hid (w.heap.size∉[b]):=hideIt (by have:=hb.out;simp;omega)
 obtain ⟨iI,hiI,hzI,hsI,hbI⟩:=info_parts info_i64'
 clear h
 go_enter Tryz.func115,Tryz.ntmps115
 go_wp2_with fail
 refine (l01Next_any (w0:=w0) 6 HS.out).mono ?_
 rintro e u1 ⟨z,rfl,za,zb,h_,c_⟩
 replace HS:=hideIt h_
 replace HC:=hideIt (HC.out.trans c_)
 replace R0:=hideIt (R0.out.chg c_ NR.out)
 have S1:Hid (w.heap.size+1≤u1.heap.size):=hideIt R0.out.lt
 clear h_ c_ za zb
 go_wp2_with fail
 refine (l07Lumped_any n z _ hn).mono ?_
 rintro e u2 ⟨g0,c0,g1,c1,g2,c2,g3,c3,x,rfl,ws,xl,sl,g_⟩
 replace HS:=hideIt (HS.out.grows g_)
 replace HC:=hideIt (HC.out.trans (Chg.of_grows g_))
 replace R0:=hideIt (R0.out.grows g_)
 have WS:Hid (WSt (w.heap.size+1) u2 x g0 c0 g1 c1 g2 c2 g3 c3):=hideIt (ws.low S1.out)
 have S2:Hid (w.heap.size+1≤u2.heap.size):=hideIt R0.out.lt
 have XL:=hideIt xl
 have SL:=hideIt sl
 clear ws g_ xl sl
 go_upto_region 2 with fail
 refine at_c (fun u=>Fr [(w.heap.size,56,#[.slice none 0 0,.slice none 0 0,.slice none 0 0,.slice none 0 0]),(u2.heap.size,56,#[.slice (some ⟨g0,0,none⟩) x.parent.length c0,.slice (some ⟨g1,0,none⟩) x.res.length c1,.slice (some ⟨g2,0,none⟩) x.cap.length c2,.slice (some ⟨g3,0,none⟩) x.sink.length c3])] w0 w b u∧WSt (w.heap.size+1) u x g0 c0 g1 c1 g2 c2 g3 c3) ⟨⟨HS.out.alloc _,HC.out.alloc _,fun q hq=>?_,hb.out,HG.out⟩,WS.out.chg (Chg.of_grows (bs:=[]) ((Grows.refl _).alloc _)) (by simp)⟩ (fun u3 hu=>?_)
 ·simp only [List.mem_cons,List.not_mem_nil,or_false] at hq
  have:=S2.out
  rcases hq with rfl|rfl
  ·exact ⟨R0.out.grows ((Grows.refl _).alloc _),by dsimp only;omega⟩
  ·exact ⟨Blk.new _ _ _,by dsimp only;omega⟩
 obtain ⟨p,hp⟩:∃p,p=u2.heap.size:=⟨_,rfl⟩
 have WLT:Hid (g0<p∧g1<p∧g2<p∧g3<p∧w.heap.size+1≤p):=hideIt (by have:=WS.out.lt;have:=S2.out;omega)
 rw [←hp] at hu ⊢
 clear HS HC R0 S1 S2 WS hp
 obtain ⟨f3,w3⟩:=hu
 have FR:=hideIt f3
 have WS:=hideIt w3
 have NQ:Hid (∀q∈[b],q<w.heap.size+1):=hideIt (fun q hq=>by simp at hq;have:=hb.out;omega)
 clear f3 w3
 go_wp2_with fail
 refine (l01Next_any (w0:=w0) 4 FR.out.1).mono ?_
 rintro e u4 ⟨m,rfl,ma,mb,h_,c_⟩
 replace FR:=hideIt (FR.out.next c_ h_)
 replace WS:=hideIt (WS.out.chg c_ NQ.out)
 have mc:=mb (by omega)
 have XM:Hid ((x.parent.length:Int)+m≤5):=hideIt (by rw [XL.out];omega)
 clear h_ c_ mb XL
 go_wp2
 go_loopw [6,7] (fun mv kv wr=>∃(m:Int) (x:WireD) (g0 c0 g1 c1 g2 c2 g3 c3:Nat),mv=.int .i64 m∧Hid (Fr [(w.heap.size,56,#[.slice none 0 0,.slice none 0 0,.slice none 0 0,.slice none 0 0]),(p,56,#[.slice (some ⟨g0,0,none⟩) x.parent.length c0,.slice (some ⟨g1,0,none⟩) x.res.length c1,.slice (some ⟨g2,0,none⟩) x.cap.length c2,.slice (some ⟨g3,0,none⟩) x.sink.length c3])] w0 w b wr)∧Hid (WSt (w.heap.size+1) wr x g0 c0 g1 c1 g2 c2 g3 c3)∧Hid (x.sink.length=n)∧Hid ((x.parent.length:Int)+m≤5)∧Hid (g3<p)) (fun mv _ _=>(intOf mv).toNat)
 case atStart=>exact ⟨m,x,g0,c0,g1,c1,g2,c2,g3,c3,rfl,FR,WS,SL,XM,hideIt WLT.out.2.2.2.1⟩
 case round =>
  have PW:Hid (w.heap.size+1≤p):=hideIt WLT.out.2.2.2.2
  clear FR WS SL XM WLT ma mc
  obtain ⟨m,x,g0,c0,g1,c1,g2,c2,g3,c3,rfl,FR,WS,SL,XM,GP⟩:=hrel
  by_cases hm:0<m
  ·have KD:=hideIt (FR.out.2.2.1 (p,56,#[.slice (some ⟨g0,0,none⟩) x.parent.length c0,.slice (some ⟨g1,0,none⟩) x.res.length c1,.slice (some ⟨g2,0,none⟩) x.cap.length c2,.slice (some ⟨g3,0,none⟩) x.sink.length c3]) (by simp)).1
   have fD:=KD.out.frozen
   have lD:=KD.out.lt
   have d0:=KD.out.cell 0
   have d1:=KD.out.cell 1
   have d2:=KD.out.cell 2
   have d3:=KD.out.cell 3
   simp at d0 d1 d2 d3
   have xb:=WS.out.2.2.2.2.2
   have xm:=XM.out
   have hle:x.parent.length≤4:=by omega
   have hrl:x.res.length≤4:=by omega
   have hcl:x.cap.length≤4:=by omega
   have ewm:IntKind.i64.wrap (m - 1)=m - 1:=IntWalk.i64_in _ (by omega)
   clear xb xm
   go_upto_region 6 with fail
   obtain ⟨y0,rfl⟩:∃y:World,y=wr:=⟨_,rfl⟩
   have HK:Hid (∀w',Chg [b] y0 w'→w'.cell? ⟨p,0,none⟩=some (.slice (some ⟨g0,0,none⟩) x.parent.length c0)∧w'.cell? ⟨p,1,none⟩=some (.slice (some ⟨g1,0,none⟩) x.res.length c1)∧w'.cell? ⟨p,2,none⟩=some (.slice (some ⟨g2,0,none⟩) x.cap.length c2)∧w'.cell? ⟨p,3,none⟩=some (.slice (some ⟨g3,0,none⟩) x.sink.length c3)):=hideIt (fun w' c=>by
    have h:=KD.out.chg c (by have:=KD.out.lt;have:=(FR.out.2.2.1 (p,56,#[.slice (some ⟨g0,0,none⟩) x.parent.length c0,.slice (some ⟨g1,0,none⟩) x.res.length c1,.slice (some ⟨g2,0,none⟩) x.cap.length c2,.slice (some ⟨g3,0,none⟩) x.sink.length c3]) (by simp)).2;have:=hb.out;simp;omega)
    exact ⟨h.cell 0,h.cell 1,h.cell 2,h.cell 3⟩)
   have gg:Chg [b] y0 y0:=Chg.refl _ _
   have HS0:=hideIt FR.out.1
   have LB0:Hid (b<y0.heap.size):=hideIt FR.out.1.ge.2.2
   have PY:Hid (p<y0.heap.size):=hideIt KD.out.lt
   clear fD lD d0 d1 d2 d3
   refine wp_region_L (k:=25) (S:=(fun w'=>w'.cell? ⟨p,0,none⟩=some (.slice (some ⟨g0,0,none⟩) x.parent.length c0)∧w'.cell? ⟨p,1,none⟩=some (.slice (some ⟨g1,0,none⟩) x.res.length c1)∧w'.cell? ⟨p,2,none⟩=some (.slice (some ⟨g2,0,none⟩) x.cap.length c2)∧w'.cell? ⟨p,3,none⟩=some (.slice (some ⟨g3,0,none⟩) x.sink.length c3))) (by kernel_rfl) ?_ (fun hh0=>?_)
   ·(try dsimp only);refine HK.out _ ?_;(repeat with_reducible (first|exact gg|exact Chg.refl _ _|refine Chg.drew ?_|refine Chg.alloc ?_ _|refine Chg.setCell ?_ (by simp) _))
   refine ltTk 0 hh0 ?_
   refine ltTk 1 hh0 ?_
   refine ltTk 3 hh0 ?_
   refine ltTk 4 hh0 ?_
   refine ltTk 8 hh0 ?_
   refine ltTk 9 hh0 ?_
   refine ltTk 11 hh0 ?_
   refine ltTk 15 hh0 ?_
   refine ltTk 16 hh0 ?_
   refine ltTk 18 hh0 ?_
   refine ltTk 22 hh0 ?_
   refine ltTk 23 hh0 ?_
   refine ltCall 2 (fun K hK=>?_)
   go_simp
   refine at_w (fun u=>SrcAt w0 u b∧Chg [b] y0 u) ⟨HS0.out.drew,(Chg.refl _ _).drew⟩ (fun ua hu=>?_)
   obtain ⟨sa,ca⟩:=hu
   refine (l02Ints_row (xs:=x.parent) ua (row_news (WS.out.1.chg (gg.trans ca) NQ.out)) rfl (by omega)).mono ?_
   rintro e ub ⟨va,rfl,ra,g_⟩
   have HSb:=hideIt (sa.grows g_)
   have CB:Hid (Chg [b] y0 ub):=hideIt (ca.trans (Chg.of_grows g_))
   have SA:Hid (y0.heap.size≤ua.heap.size):=hideIt ca.size
   have LA:Hid (b<ua.heap.size):=hideIt sa.ge.2.2
   have RA:=hideIt ra
   have gg:=gg.trans CB.out
   obtain ⟨Aa,na,ev⟩:=own_slice ra
   subst ev
   clear sa ca ra g_
   (try go_wp2_with fail)
   refine hK.out _ _ ?_ (fun hh1=>?_)
   ·(try dsimp only);refine HK.out _ ?_;(repeat with_reducible (first|exact gg|exact Chg.refl _ _|refine Chg.drew ?_|refine Chg.alloc ?_ _|refine Chg.setCell ?_ (by simp) _))
   clear hK K hh0
   try simp only [Act.put,List.setIfInBounds_toArray,List.set_cons_zero,List.set_cons_succ]
   refine ltCall 5 (fun K hK=>?_)
   go_simp
   refine (l01Next_any (w0:=w0) _ HSb.out).mono ?_
   rintro e uc ⟨z1,rfl,za,zb,h_,c_⟩
   replace HSb:=hideIt h_
   replace CB:=hideIt (CB.out.trans c_)
   replace RA:=hideIt (RA.out.chg c_ (fun q hq=>by simp at hq;subst hq;exact LA.out))
   have gg:=gg.trans c_
   clear za zb h_ c_
   (try go_wp2_with fail)
   refine hK.out _ _ ?_ (fun hh2=>?_)
   ·(try dsimp only);refine HK.out _ ?_;(repeat with_reducible (first|exact gg|exact Chg.refl _ _|refine Chg.drew ?_|refine Chg.alloc ?_ _|refine Chg.setCell ?_ (by simp) _))
   clear hK K hh1
   try simp only [Act.put,List.setIfInBounds_toArray,List.set_cons_zero,List.set_cons_succ]
   refine ltCall 6 (fun K hK=>?_)
   go_simp
   (try go_wp2_with fail)
   refine hK.out _ _ ?_ (fun hh3=>?_)
   ·(try dsimp only);refine HK.out _ ?_;(repeat with_reducible (first|exact gg|exact Chg.refl _ _|refine Chg.drew ?_|refine Chg.alloc ?_ _|refine Chg.setCell ?_ (by simp) _))
   clear hK K hh2
   try simp only [Act.put,List.setIfInBounds_toArray,List.set_cons_zero,List.set_cons_succ]
   refine ltCall 7 (fun K hK=>?_)
   refine wp_append_at _ _ 39 rfl Tryz.underlying39 hiI hzI hsI (by rw [hbI];decide) rfl (by decide) (.slice Aa x.parent.length na) x.parent.length (x.parent.map (Value.int .i64)) rfl ((ownsRow_base RA.out (Nat.zero_le _)).alloc (.cells #[.int .i64 z1] 2)) ⟨uc.heap.size,0,none⟩ 1 [.int .i64 z1] rfl rfl (cells_new _ _ _) (by intro u hu;simp at hu;subst hu;rfl) (by omega) ?_
   intro v1 y1 hrow hgrow hat
   have hlo:∀k,(Value.slice Aa x.parent.length na).ownBlock=some k→y0.heap.size≤k:=fun k e=>by have h9:=(own_ge RA.out k e).1;have:=SA.out;omega
   have C1:Hid (Chg [b] y0 y1):=hideIt ((CB.out.alloc (.cells #[.int .i64 z1] 2)).grown hgrow (fun k e=>.inr (hlo k e)))
   have HS1:Hid (SrcAt w0 y1 b):=hideIt ((HSb.out.alloc (.cells #[.int .i64 z1] 2)).grown hgrow (fun k e=>by have:=hlo k e;have:=LB0.out;omega))
   have LB1:Hid (b<y1.heap.size):=hideIt HS1.out.ge.2.2
   have W1:Hid (RowI y0.heap.size y1 v1 (x.parent++[z1])):=hideIt (RowI.up (lo:=0) (by unfold RowI;rw [List.length_append,List.map_append];exact hrow) (fun k e=>by
    rcases hat with h|h
    ·exact hlo k (h ▸ e)
    ·rw [h] at e
     injection e with e
     have:=CB.out.size
     simp at e
     omega))
   obtain ⟨a1,k1,ev,-,-,L1,-,-⟩:=row_at W1.out (by simp)
   have WL1:Hid (RowI y0.heap.size y1 (.slice (some ⟨a1,0,none⟩) (x.parent++[z1]).length k1) (x.parent++[z1])):=hideIt (by rw [←ev];exact W1.out)
   have ev2:v1=.slice (some ⟨a1,0,none⟩) (x.parent.length+1) k1:=by rw [ev,List.length_append];rfl
   subst ev2
   have P1:Hid (y0.heap.size≤a1∧a1<y1.heap.size):=hideIt ⟨(own_ge W1.out a1 rfl).1,L1⟩
   have gg:Chg [b] y0 y1:=C1.out
   clear ev hrow hgrow hat hlo CB SA LA RA HSb L1 W1
   refine hK.out _ _ ?_ (fun hh4=>?_)
   ·(try dsimp only);refine HK.out _ ?_;(repeat with_reducible (first|exact gg|exact Chg.refl _ _|refine Chg.drew ?_|refine Chg.alloc ?_ _|refine Chg.setCell ?_ (by simp) _))
   clear hK K hh3
   try simp only [Act.put,List.setIfInBounds_toArray,List.set_cons_zero,List.set_cons_succ]
   refine ltCall 10 (fun K hK=>?_)
   go_simp
   refine at_w (fun u=>SrcAt w0 u b∧Chg [b] y1 u) ⟨HS1.out,(Chg.refl _ _)⟩ (fun ua hu=>?_)
   obtain ⟨sa,ca⟩:=hu
   refine (l02Ints_row (xs:=x.res) ua (row_news (WS.out.2.1.chg (gg.trans ca) NQ.out)) rfl (by omega)).mono ?_
   rintro e ub ⟨va,rfl,ra,g_⟩
   have HSb:=hideIt (sa.grows g_)
   have CB:Hid (Chg [b] y1 ub):=hideIt (ca.trans (Chg.of_grows g_))
   have SA:Hid (y1.heap.size≤ua.heap.size):=hideIt ca.size
   have LA:Hid (b<ua.heap.size):=hideIt sa.ge.2.2
   have RA:=hideIt ra
   have gg:=gg.trans CB.out
   obtain ⟨Aa,na,ev⟩:=own_slice ra
   subst ev
   clear sa ca ra g_
   (try go_wp2_with fail)
   refine hK.out _ _ ?_ (fun hh5=>?_)
   ·(try dsimp only);refine HK.out _ ?_;(repeat with_reducible (first|exact gg|exact Chg.refl _ _|refine Chg.drew ?_|refine Chg.alloc ?_ _|refine Chg.setCell ?_ (by simp) _))
   clear hK K hh4
   try simp only [Act.put,List.setIfInBounds_toArray,List.set_cons_zero,List.set_cons_succ]
   refine ltCall 12 (fun K hK=>?_)
   go_simp
   refine (l01Next_any (w0:=w0) 400 HSb.out).mono ?_
   rintro e uc ⟨z2,rfl,za,zb,h_,c_⟩
   replace HSb:=hideIt h_
   replace CB:=hideIt (CB.out.trans c_)
   replace RA:=hideIt (RA.out.chg c_ (fun q hq=>by simp at hq;subst hq;exact LA.out))
   have gg:=gg.trans c_
   clear za zb h_ c_
   (try go_wp2_with fail)
   refine hK.out _ _ ?_ (fun hh6=>?_)
   ·(try dsimp only);refine HK.out _ ?_;(repeat with_reducible (first|exact gg|exact Chg.refl _ _|refine Chg.drew ?_|refine Chg.alloc ?_ _|refine Chg.setCell ?_ (by simp) _))
   clear hK K hh5
   try simp only [Act.put,List.setIfInBounds_toArray,List.set_cons_zero,List.set_cons_succ]
   refine ltCall 13 (fun K hK=>?_)
   go_simp
   (try go_wp2_with fail)
   refine hK.out _ _ ?_ (fun hh7=>?_)
   ·(try dsimp only);refine HK.out _ ?_;(repeat with_reducible (first|exact gg|exact Chg.refl _ _|refine Chg.drew ?_|refine Chg.alloc ?_ _|refine Chg.setCell ?_ (by simp) _))
   clear hK K hh6
   try simp only [Act.put,List.setIfInBounds_toArray,List.set_cons_zero,List.set_cons_succ]
   refine ltCall 14 (fun K hK=>?_)
   refine wp_append_at _ _ 39 rfl Tryz.underlying39 hiI hzI hsI (by rw [hbI];decide) rfl (by decide) (.slice Aa x.res.length na) x.res.length (x.res.map (Value.int .i64)) rfl ((ownsRow_base RA.out (Nat.zero_le _)).alloc (.cells #[.int .i64 z2] 2)) ⟨uc.heap.size,0,none⟩ 1 [.int .i64 z2] rfl rfl (cells_new _ _ _) (by intro u hu;simp at hu;subst hu;rfl) (by omega) ?_
   intro v2 y2 hrow hgrow hat
   have hlo:∀k,(Value.slice Aa x.res.length na).ownBlock=some k→y1.heap.size≤k:=fun k e=>by have h9:=(own_ge RA.out k e).1;have:=SA.out;omega
   have C2:Hid (Chg [b] y1 y2):=hideIt ((CB.out.alloc (.cells #[.int .i64 z2] 2)).grown hgrow (fun k e=>.inr (hlo k e)))
   have HS2:Hid (SrcAt w0 y2 b):=hideIt ((HSb.out.alloc (.cells #[.int .i64 z2] 2)).grown hgrow (fun k e=>by have:=hlo k e;have:=LB1.out;omega))
   have LB2:Hid (b<y2.heap.size):=hideIt HS2.out.ge.2.2
   have W2:Hid (RowI y1.heap.size y2 v2 (x.res++[z2])):=hideIt (RowI.up (lo:=0) (by unfold RowI;rw [List.length_append,List.map_append];exact hrow) (fun k e=>by
    rcases hat with h|h
    ·exact hlo k (h ▸ e)
    ·rw [h] at e
     injection e with e
     have:=CB.out.size
     simp at e
     omega))
   obtain ⟨a2,k2,ev,-,-,L2,-,-⟩:=row_at W2.out (by simp)
   have WL2:Hid (RowI y1.heap.size y2 (.slice (some ⟨a2,0,none⟩) (x.res++[z2]).length k2) (x.res++[z2])):=hideIt (by rw [←ev];exact W2.out)
   have ev2:v2=.slice (some ⟨a2,0,none⟩) (x.res.length+1) k2:=by rw [ev,List.length_append];rfl
   subst ev2
   have P2:Hid (y1.heap.size≤a2∧a2<y2.heap.size):=hideIt ⟨(own_ge W2.out a2 rfl).1,L2⟩
   have gg:Chg [b] y0 y2:=C1.out.trans C2.out
   clear ev hrow hgrow hat hlo CB SA LA RA HSb L2 W2
   refine hK.out _ _ ?_ (fun hh8=>?_)
   ·(try dsimp only);refine HK.out _ ?_;(repeat with_reducible (first|exact gg|exact Chg.refl _ _|refine Chg.drew ?_|refine Chg.alloc ?_ _|refine Chg.setCell ?_ (by simp) _))
   clear hK K hh7
   try simp only [Act.put,List.setIfInBounds_toArray,List.set_cons_zero,List.set_cons_succ]
   refine ltCall 17 (fun K hK=>?_)
   go_simp
   refine at_w (fun u=>SrcAt w0 u b∧Chg [b] y2 u) ⟨HS2.out,(Chg.refl _ _)⟩ (fun ua hu=>?_)
   obtain ⟨sa,ca⟩:=hu
   refine (l02Ints_row (xs:=x.cap) ua (row_news (WS.out.2.2.1.chg (gg.trans ca) NQ.out)) rfl (by omega)).mono ?_
   rintro e ub ⟨va,rfl,ra,g_⟩
   have HSb:=hideIt (sa.grows g_)
   have CB:Hid (Chg [b] y2 ub):=hideIt (ca.trans (Chg.of_grows g_))
   have SA:Hid (y2.heap.size≤ua.heap.size):=hideIt ca.size
   have LA:Hid (b<ua.heap.size):=hideIt sa.ge.2.2
   have RA:=hideIt ra
   have gg:=gg.trans CB.out
   obtain ⟨Aa,na,ev⟩:=own_slice ra
   subst ev
   clear sa ca ra g_
   (try go_wp2_with fail)
   refine hK.out _ _ ?_ (fun hh9=>?_)
   ·(try dsimp only);refine HK.out _ ?_;(repeat with_reducible (first|exact gg|exact Chg.refl _ _|refine Chg.drew ?_|refine Chg.alloc ?_ _|refine Chg.setCell ?_ (by simp) _))
   clear hK K hh8
   try simp only [Act.put,List.setIfInBounds_toArray,List.set_cons_zero,List.set_cons_succ]
   refine ltCall 19 (fun K hK=>?_)
   go_simp
   refine (l01Next_any (w0:=w0) 8 HSb.out).mono ?_
   rintro e uc ⟨z3,rfl,za,zb,h_,c_⟩
   replace HSb:=hideIt h_
   replace CB:=hideIt (CB.out.trans c_)
   replace RA:=hideIt (RA.out.chg c_ (fun q hq=>by simp at hq;subst hq;exact LA.out))
   have gg:=gg.trans c_
   clear za zb h_ c_
   (try go_wp2_with fail)
   refine hK.out _ _ ?_ (fun hh10=>?_)
   ·(try dsimp only);refine HK.out _ ?_;(repeat with_reducible (first|exact gg|exact Chg.refl _ _|refine Chg.drew ?_|refine Chg.alloc ?_ _|refine Chg.setCell ?_ (by simp) _))
   clear hK K hh9
   try simp only [Act.put,List.setIfInBounds_toArray,List.set_cons_zero,List.set_cons_succ]
   refine ltCall 20 (fun K hK=>?_)
   go_simp
   (try go_wp2_with fail)
   refine hK.out _ _ ?_ (fun hh11=>?_)
   ·(try dsimp only);refine HK.out _ ?_;(repeat with_reducible (first|exact gg|exact Chg.refl _ _|refine Chg.drew ?_|refine Chg.alloc ?_ _|refine Chg.setCell ?_ (by simp) _))
   clear hK K hh10
   try simp only [Act.put,List.setIfInBounds_toArray,List.set_cons_zero,List.set_cons_succ]
   refine ltCall 21 (fun K hK=>?_)
   refine wp_append_at _ _ 39 rfl Tryz.underlying39 hiI hzI hsI (by rw [hbI];decide) rfl (by decide) (.slice Aa x.cap.length na) x.cap.length (x.cap.map (Value.int .i64)) rfl ((ownsRow_base RA.out (Nat.zero_le _)).alloc (.cells #[.int .i64 z3] 2)) ⟨uc.heap.size,0,none⟩ 1 [.int .i64 z3] rfl rfl (cells_new _ _ _) (by intro u hu;simp at hu;subst hu;rfl) (by omega) ?_
   intro v3 y3 hrow hgrow hat
   have hlo:∀k,(Value.slice Aa x.cap.length na).ownBlock=some k→y2.heap.size≤k:=fun k e=>by have h9:=(own_ge RA.out k e).1;have:=SA.out;omega
   have C3:Hid (Chg [b] y2 y3):=hideIt ((CB.out.alloc (.cells #[.int .i64 z3] 2)).grown hgrow (fun k e=>.inr (hlo k e)))
   have HS3:Hid (SrcAt w0 y3 b):=hideIt ((HSb.out.alloc (.cells #[.int .i64 z3] 2)).grown hgrow (fun k e=>by have:=hlo k e;have:=LB2.out;omega))
   have LB3:Hid (b<y3.heap.size):=hideIt HS3.out.ge.2.2
   have W3:Hid (RowI y2.heap.size y3 v3 (x.cap++[z3])):=hideIt (RowI.up (lo:=0) (by unfold RowI;rw [List.length_append,List.map_append];exact hrow) (fun k e=>by
    rcases hat with h|h
    ·exact hlo k (h ▸ e)
    ·rw [h] at e
     injection e with e
     have:=CB.out.size
     simp at e
     omega))
   obtain ⟨a3,k3,ev,-,-,L3,-,-⟩:=row_at W3.out (by simp)
   have WL3:Hid (RowI y2.heap.size y3 (.slice (some ⟨a3,0,none⟩) (x.cap++[z3]).length k3) (x.cap++[z3])):=hideIt (by rw [←ev];exact W3.out)
   have ev2:v3=.slice (some ⟨a3,0,none⟩) (x.cap.length+1) k3:=by rw [ev,List.length_append];rfl
   subst ev2
   have P3:Hid (y2.heap.size≤a3∧a3<y3.heap.size):=hideIt ⟨(own_ge W3.out a3 rfl).1,L3⟩
   have gg:Chg [b] y0 y3:=(C1.out.trans C2.out).trans C3.out
   clear ev hrow hgrow hat hlo CB SA LA RA HSb L3 W3
   have KD9:=hideIt (KD.out.chg gg (by have:=(FR.out.2.2.1 (p,56,#[.slice (some ⟨g0,0,none⟩) x.parent.length c0,.slice (some ⟨g1,0,none⟩) x.res.length c1,.slice (some ⟨g2,0,none⟩) x.cap.length c2,.slice (some ⟨g3,0,none⟩) x.sink.length c3]) (by simp)).2;have:=hb.out;simp;omega))
   have f9:=KD9.out.frozen
   have l9:=KD9.out.lt
   have e0:=KD9.out.cell 0
   have e1:=KD9.out.cell 1
   have e2:=KD9.out.cell 2
   have e3:=KD9.out.cell 3
   simp at e0 e1 e2 e3
   refine hK.out _ _ ?_ (fun hh12=>?_)
   ·(try dsimp only);refine HK.out _ ?_;(repeat with_reducible (first|exact gg|exact Chg.refl _ _|refine Chg.drew ?_|refine Chg.alloc ?_ _|refine Chg.setCell ?_ (by simp) _))
   clear hK K hh11
   try simp only [Act.put,List.setIfInBounds_toArray,List.set_cons_zero,List.set_cons_succ]
   refine ltTk 24 hh12 ?_
   refine ltLast (fun K hK=>?_)
   go_simp
   (try go_wp2_with fail)
   refine hK.out _ _ ?_
   clear hK K hh12
   refine wpAnyL_done (by kernel_rfl) ?_ _
   clear HK f9 l9 e0 e1 e2 e3
   have CP:Hid (Chg [p] y3 ((((y3.setCell ⟨p,0,none⟩ (.slice (some ⟨a1,0,none⟩) (x.parent.length+1) k1)).setCell ⟨p,1,none⟩ (.slice (some ⟨a2,0,none⟩) (x.res.length+1) k2)).setCell ⟨p,2,none⟩ (.slice (some ⟨a3,0,none⟩) (x.cap.length+1) k3)).setCell ⟨p,3,none⟩ (.slice (some ⟨g3,0,none⟩) x.sink.length c3))):=hideIt (by repeat with_reducible (first|exact Chg.refl _ _|refine Chg.setCell ?_ (by simp) _))
   have FRX:Hid (Fr [(w.heap.size,56,#[.slice none 0 0,.slice none 0 0,.slice none 0 0,.slice none 0 0]),(p,56,#[.slice (some ⟨a1,0,none⟩) (x.parent.length+1) k1,.slice (some ⟨a2,0,none⟩) (x.res.length+1) k2,.slice (some ⟨a3,0,none⟩) (x.cap.length+1) k3,.slice (some ⟨g3,0,none⟩) x.sink.length c3])] w0 w b ((((y3.setCell ⟨p,0,none⟩ (.slice (some ⟨a1,0,none⟩) (x.parent.length+1) k1)).setCell ⟨p,1,none⟩ (.slice (some ⟨a2,0,none⟩) (x.res.length+1) k2)).setCell ⟨p,2,none⟩ (.slice (some ⟨a3,0,none⟩) (x.cap.length+1) k3)).setCell ⟨p,3,none⟩ (.slice (some ⟨g3,0,none⟩) x.sink.length c3))):=hideIt (Fr.put (FR.out.next gg HS3.out) CP.out ((((KD9.out.set_ 0 _).set_ 1 _).set_ 2 _).set_ 3 _) (by dsimp only;have:=PW.out;omega))
   have WSX:Hid (WSt (w.heap.size+1) ((((y3.setCell ⟨p,0,none⟩ (.slice (some ⟨a1,0,none⟩) (x.parent.length+1) k1)).setCell ⟨p,1,none⟩ (.slice (some ⟨a2,0,none⟩) (x.res.length+1) k2)).setCell ⟨p,2,none⟩ (.slice (some ⟨a3,0,none⟩) (x.cap.length+1) k3)).setCell ⟨p,3,none⟩ (.slice (some ⟨g3,0,none⟩) x.sink.length c3)) (⟨x.parent++[z1],x.res++[z2],x.cap++[z3],x.sink⟩:WireD) a1 k1 a2 k2 a3 k3 g3 c3):=hideIt (by
    have xb:=WS.out.2.2.2.2.2
    have hp1:=PY.out
    have hp2:=PW.out
    have hp3:=P1.out
    have hp4:=P2.out
    have hp5:=P3.out
    have hp6:=GP.out
    have l1:=C1.out.size
    have l2:=C2.out.size
    have l3:=C3.out.size
    have key:∀{lo:Nat} {v:Value} {xs:List Int},RowI lo y3 v xs→y0.heap.size≤lo→RowI (w.heap.size+1) ((((y3.setCell ⟨p,0,none⟩ (.slice (some ⟨a1,0,none⟩) (x.parent.length+1) k1)).setCell ⟨p,1,none⟩ (.slice (some ⟨a2,0,none⟩) (x.res.length+1) k2)).setCell ⟨p,2,none⟩ (.slice (some ⟨a3,0,none⟩) (x.cap.length+1) k3)).setCell ⟨p,3,none⟩ (.slice (some ⟨g3,0,none⟩) x.sink.length c3)) v xs:=fun h hl=>ownsRow_base (RowI.chg h CP.out (fun q hq=>by simp at hq;omega)) (by omega)
    refine ⟨key (WL1.out.chg (C2.out.trans C3.out) (fun q hq=>by simp at hq;subst hq;exact LB0.out)) (Nat.le_refl _),key (WL2.out.chg C3.out (fun q hq=>by simp at hq;subst hq;exact LB1.out)) l1,key WL3.out (by omega),?_,by simp;omega,by simp;omega,by simp;omega,by simp;omega,xb.2.2.2⟩
    have h3:=WS.out.2.2.2.1.chg gg NQ.out
    exact ownsRow_same h3 (CP.out.same (fun q hq=>by simp [Value.ownBlock] at hq;subst hq;exact (own_ge h3 _ rfl).2) (fun q hq hm=>by simp [Value.ownBlock] at hq hm;omega)))
   have XM9:Hid (((⟨x.parent++[z1],x.res++[z2],x.cap++[z3],x.sink⟩:WireD).parent.length:Int)+(m - 1)≤5):=hideIt (by have:=XM.out;simp;omega)
   clear FR WS XM C1 C2 C3 HS0 HS1 HS2 HS3 LB0 LB1 LB2 LB3 PY WL1 WL2 WL3 P1 P2 P3 CP KD9 gg
   go_wp2
   go_roundw
   case rel=>exact ⟨m - 1,(⟨x.parent++[z1],x.res++[z2],x.cap++[z3],x.sink⟩:WireD),a1,k1,a2,k2,a3,k3,g3,c3,by go_num,hideIt (by simp only [List.length_append,List.length_singleton];exact FRX.out),WSX,SL,XM9,GP⟩
   case measure=>simp [intOf];omega
  ·have hme:¬0<m:=hm
   have NS:Hid (x.sink.length=n):=SL
   have GB:Hid (g3<p):=GP
   clear SL GP XM
   go_wp2
   go_loopw [8] (fun iv wq=>∃(j:Nat) (S:List Int),iv=.int .i64 (j:Int)∧j≤x.sink.length∧Hid (S.length=x.sink.length)∧Hid (Fr [(w.heap.size,56,#[.slice none 0 0,.slice none 0 0,.slice none 0 0,.slice none 0 0]),(p,56,#[.slice (some ⟨g0,0,none⟩) x.parent.length c0,.slice (some ⟨g1,0,none⟩) x.res.length c1,.slice (some ⟨g2,0,none⟩) x.cap.length c2,.slice (some ⟨g3,0,none⟩) x.sink.length c3])] w0 w b wq)∧Hid (WSt (w.heap.size+1) wq { x with sink:=S } g0 c0 g1 c1 g2 c2 g3 c3)) (fun iv _=>x.sink.length - (intOf iv).toNat)
   case atStart=>exact ⟨0,x.sink,rfl,Nat.zero_le _,hideIt rfl,FR,WS⟩
   case round =>
    clear FR WS
    obtain ⟨j,S,rfl,hj,SS,FR,WS⟩:=hrel
    obtain ⟨y0,rfl⟩:∃y:World,y=wr:=⟨_,rfl⟩
    have KD:=hideIt (FR.out.2.2.1 (p,56,#[.slice (some ⟨g0,0,none⟩) x.parent.length c0,.slice (some ⟨g1,0,none⟩) x.res.length c1,.slice (some ⟨g2,0,none⟩) x.cap.length c2,.slice (some ⟨g3,0,none⟩) x.sink.length c3]) (by simp)).1
    have fD:=KD.out.frozen
    have lD:=KD.out.lt
    have d0:=KD.out.cell 0
    have d1:=KD.out.cell 1
    have d2:=KD.out.cell 2
    have d3:=KD.out.cell 3
    simp at d0 d1 d2 d3
    by_cases hlt:j<x.sink.length
    ·have hlti:(j:Int)<(x.sink.length:Int):=by omega
     have x200:x.sink.length≤200:=by rw [NS.out];exact hn
     go_upto_region 10 with fail
     have HK:Hid (∀w',Chg [b] y0 w'→w'.cell? ⟨p,0,none⟩=some (.slice (some ⟨g0,0,none⟩) x.parent.length c0)∧w'.cell? ⟨p,1,none⟩=some (.slice (some ⟨g1,0,none⟩) x.res.length c1)∧w'.cell? ⟨p,2,none⟩=some (.slice (some ⟨g2,0,none⟩) x.cap.length c2)∧w'.cell? ⟨p,3,none⟩=some (.slice (some ⟨g3,0,none⟩) x.sink.length c3)):=hideIt (fun w' c=>by
      have h:=KD.out.chg c (by have:=KD.out.lt;have:=(FR.out.2.2.1 (p,56,#[.slice (some ⟨g0,0,none⟩) x.parent.length c0,.slice (some ⟨g1,0,none⟩) x.res.length c1,.slice (some ⟨g2,0,none⟩) x.cap.length c2,.slice (some ⟨g3,0,none⟩) x.sink.length c3]) (by simp)).2;have:=hb.out;simp;omega)
      exact ⟨h.cell 0,h.cell 1,h.cell 2,h.cell 3⟩)
     have gg:Chg [b] y0 y0:=Chg.refl _ _
     clear fD lD d0 d1 d2 d3
     refine wp_region_L (k:=9) (S:=(fun w'=>w'.cell? ⟨p,0,none⟩=some (.slice (some ⟨g0,0,none⟩) x.parent.length c0)∧w'.cell? ⟨p,1,none⟩=some (.slice (some ⟨g1,0,none⟩) x.res.length c1)∧w'.cell? ⟨p,2,none⟩=some (.slice (some ⟨g2,0,none⟩) x.cap.length c2)∧w'.cell? ⟨p,3,none⟩=some (.slice (some ⟨g3,0,none⟩) x.sink.length c3))) (by kernel_rfl) ?_ (fun hh0=>?_)
     ·(try dsimp only);refine HK.out _ ?_;(repeat with_reducible (first|exact gg|exact Chg.refl _ _|refine Chg.drew ?_|refine Chg.alloc ?_ _|refine Chg.setCell ?_ (by simp) _))
     refine ltTk 0 hh0 ?_
     refine ltTk 1 hh0 ?_
     refine ltTk 2 hh0 ?_
     refine ltTk 3 hh0 ?_
     refine ltTk 4 hh0 ?_
     refine ltTk 5 hh0 ?_
     refine ltTk 6 hh0 ?_
     refine ltCall 7 (fun K hK=>?_)
     go_simp
     refine (l01Next_any (w0:=w0) _ FR.out.1.drew).mono ?_
     rintro e y1 ⟨z,rfl,za,zb,h_,c_⟩
     have cb:=((Chg.refl [b] y0).drew).trans c_
     have gg:Chg [b] y0 y1:=cb
     replace FR:=hideIt (FR.out.next cb h_)
     replace WS:=hideIt (WS.out.chg cb NQ.out)
     clear za zb h_ c_ cb
     obtain ⟨s0,hs0⟩:∃s0,S[j]?=some s0:=⟨_,List.getElem?_eq_getElem (by rw [SS.out];exact hlt)⟩
     obtain ⟨g9,c9,ev,-,-,l3,f3,hc⟩:=row_at WS.out.2.2.2.1 (by show 1≤S.length;rw [SS.out];omega)
     have eg:g3=g9:=by injection ev with q1;injection q1 with q1;injection q1
     subst eg
     have sj:=hc j (.int .i64 s0) (by show (S.map (Value.int .i64))[j]?=_;rw [List.getElem?_map,hs0];rfl)
     clear ev hc hs0
     (try go_wp2_with fail)
     refine hK.out _ _ ?_ (fun hh1=>?_)
     ·(try dsimp only);refine HK.out _ ?_;(repeat with_reducible (first|exact gg|exact Chg.refl _ _|refine Chg.drew ?_|refine Chg.alloc ?_ _|refine Chg.setCell ?_ (by simp) _))
     clear hK K hh0
     try simp only [Act.put,List.setIfInBounds_toArray,List.set_cons_zero,List.set_cons_succ]
     refine ltTk 8 hh1 ?_
     refine ltLast (fun K hK=>?_)
     go_simp
     (try go_wp2_with fail)
     refine hK.out _ _ ?_
     clear hK K hh1
     refine wpAnyL_done (by kernel_rfl) ?_ _
     clear HK l3 f3 sj
     have FR9:Hid (Fr [(w.heap.size,56,#[.slice none 0 0,.slice none 0 0,.slice none 0 0,.slice none 0 0]),(p,56,#[.slice (some ⟨g0,0,none⟩) x.parent.length c0,.slice (some ⟨g1,0,none⟩) x.res.length c1,.slice (some ⟨g2,0,none⟩) x.cap.length c2,.slice (some ⟨g3,0,none⟩) x.sink.length c3])] w0 w b (y1.setCell ⟨g3,j,none⟩ (.int .i64 z))):=hideIt (FR.out.chg (ds:=[g3]) ((Chg.refl _ _).setCell (by simp) _) (fun q hq=>by
      have eq9:q=g3:=by simpa using hq
      subst eq9
      have:=(own_ge WS.out.2.2.2.1 q rfl).1
      have:=GB.out
      refine ⟨by omega,fun q hq=>?_⟩
      simp only [List.mem_cons,List.not_mem_nil,or_false] at hq
      rcases hq with rfl|rfl<;>(dsimp only;omega)))
     have WS9:Hid (WSt (w.heap.size+1) (y1.setCell ⟨g3,j,none⟩ (.int .i64 z)) { x with sink:=S.set j z } g0 c0 g1 c1 g2 c2 g3 c3):=hideIt WS.out.sink
     have SS9:Hid ((S.set j z).length=x.sink.length):=hideIt (by rw [List.length_set];exact SS.out)
     clear FR WS SS KD gg
     go_wp2
     go_roundw
     case rel=>exact ⟨j+1,_,by go_num,by omega,SS9,FR9,WS9⟩
     case measure=>simp [intOf];omega
    ·have hle:¬(j:Int)<(x.sink.length:Int):=by omega
     have R0:=hideIt (FR.out.2.2.1 (w.heap.size,56,#[.slice none 0 0,.slice none 0 0,.slice none 0 0,.slice none 0 0]) (by simp)).1
     have f0:=R0.out.frozen
     have l0:=R0.out.lt
     have z0:=R0.out.cell 0
     have z1:=R0.out.cell 1
     have z2:=R0.out.cell 2
     have z3:=R0.out.cell 3
     simp at z0 z1 z2 z3
     go_wp2
     refine bodyPost_ret (by simp [*,results,Tryz.results115,go_sem];try rfl) rfl ?_
     refine wire_fin FR.out WS.out SS.out NS.out ?_
     repeat with_reducible (first|exact Chg.refl _ _|refine Chg.setCell ?_ (by simp) _)
end Go.Proofs.YtlnpefiipdkafaaGreatDoor
/-
  A drawn block.
-/
namespace Go.Proofs.YtlnpefiipdkafaaGreatDoor
open Go.RowKit
def OWireB (w:World) (es:List Value) (x:WireD) (b:List Nat):Prop:=(∃g0 c0 g1 c1 g2 c2 g3 c3:Nat,es=[.slice (some ⟨g0,0,none⟩) x.parent.length c0,.slice (some ⟨g1,0,none⟩) x.res.length c1,.slice (some ⟨g2,0,none⟩) x.cap.length c2,.slice (some ⟨g3,0,none⟩) x.sink.length c3] ∧
 OInts w (.slice (some ⟨g0,0,none⟩) x.parent.length c0) x.parent [g0]∧OInts w (.slice (some ⟨g1,0,none⟩) x.res.length c1) x.res [g1]∧OInts w (.slice (some ⟨g2,0,none⟩) x.cap.length c2) x.cap [g2]∧OInts w (.slice (some ⟨g3,0,none⟩) x.sink.length c3) x.sink [g3]∧b=[g0,g1,g2,g3]) ∧
 (1≤x.parent.length∧x.parent.length≤8)∧x.res.length=x.parent.length∧x.cap.length=x.parent.length∧x.sink.length≤200
theorem OWireB.same {w w':World} {es:List Value} {x:WireD} {b:List Nat} (h:OWireB w es x b) (g:SameOn b w w'):OWireB w' es x b:=by
 obtain ⟨⟨g0,c0,g1,c1,g2,c2,g3,c3,e,h0,h1,h2,h3,rfl⟩,h4⟩:=h
 exact ⟨⟨g0,c0,g1,c1,g2,c2,g3,c3,e,h0.same (g.sub (by simp +contextual)),h1.same (g.sub (by simp +contextual)),h2.same (g.sub (by simp +contextual)),h3.same (g.sub (by simp +contextual)),rfl⟩,h4⟩
theorem OWireB.reads {w:World} {es:List Value} {x:WireD} {b:List Nat} (h:OWireB w es x b):RWire w es x:=by
 obtain ⟨⟨g0,c0,g1,c1,g2,c2,g3,c3,e,h0,h1,h2,h3,rfl⟩,h4⟩:=h
 exact ⟨_,_,_,_,e,h0.reads,h1.reads,h2.reads,h3.reads⟩
theorem RowI.oints {lo:Nat} {w:World} {g n c:Nat} {xs:List Int} (h:RowI lo w (.slice (some ⟨g,0,none⟩) n c) xs):OInts w (.slice (some ⟨g,0,none⟩) n c) xs [g]:=by
 obtain ⟨hl,⟨e,_⟩|⟨g',c',cur,e,hb,hg,h1,h2,h3,h4⟩⟩:=h
 ·cases e
 ·injection e with e1 e2 e3
  injection e1 with e1
  injection e1 with e1
  subst e1 e2 e3
  have hB:Blk w g 2 cur:=hg
  refine .inr ⟨g,c,cur,List.replicate xs.length [],rfl,h1,h2,hB,by simp,?_,fun i x hx=>?_⟩
  ·congr 1
   symm
   rw [List.flatten_eq_nil_iff]
   intro l hl
   exact (List.mem_replicate.1 hl).2
  ·have hi:i<xs.length:=(List.getElem?_eq_some_iff.1 hx).1
   refine ⟨[.int .i64 x],[],rfl,fun j u hu=>?_,by rw [List.getElem?_replicate,if_pos hi],rfl,rfl⟩
   match j,hu with
   | 0,hu =>
    simp at hu
    subst hu
    have h5:(cur.toList.take (xs.length * 1))[i]?=some (.int .i64 x):=by rw [h4,List.getElem?_map,hx];rfl
    rw [List.getElem?_take_of_lt (by omega)] at h5
    simpa using h5
theorem WSt.owire {lo:Nat} {u:World} {x:WireD} {g0 c0 g1 c1 g2 c2 g3 c3:Nat} (h:WSt lo u x g0 c0 g1 c1 g2 c2 g3 c3):OWireB u [.slice (some ⟨g0,0,none⟩) x.parent.length c0,.slice (some ⟨g1,0,none⟩) x.res.length c1,.slice (some ⟨g2,0,none⟩) x.cap.length c2,.slice (some ⟨g3,0,none⟩) x.sink.length c3] x [g0,g1,g2,g3]∧Own lo u.heap.size [g0,g1,g2,g3]:=by
 have hlt:=h.lt
 obtain ⟨h0,h1,h2,h3,h4,h5⟩:=h
 refine ⟨⟨⟨g0,c0,g1,c1,g2,c2,g3,c3,rfl,h0.oints,h1.oints,h2.oints,h3.oints,rfl⟩,h5⟩,h4,fun q hq=>?_⟩
 simp only [List.mem_cons,List.not_mem_nil,or_false] at hq
 rcases hq with rfl|rfl|rfl|rfl<;>omega
theorem LD0.des {lo m1 m2 m3 m4:Nat} {u:World} {vl vi vn vp:Value} {cs:List CellD} {xs:List InstD} {ns:List ByteArray} {ps:List PortD} (h:LD0 lo m1 m2 m3 m4 u vl cs vi xs vn ns vp ps):RDesign u [vi,vn,vp] ⟨xs,ns,ps⟩∧(∀x∈xs,x.nets.length≤8):=by
 obtain ⟨bl,bp,h1,h2,h3,h4,h5,h6,h7,h8,h9⟩:=h
 exact ⟨⟨_,_,_,rfl,h3.reads.1,h3.reads.2,h4.reads⟩,fun x hx=>(h3.small.1 x hx).1.2⟩
/-- library, design and wires, in ranges of blocks -/
def BD (lo m1 m2 m3 m4:Nat) (u:World) (vl:Value) (cs:List CellD) (vi:Value) (xs:List InstD) (vn:Value) (ns:List ByteArray) (vp:Value) (ps:List PortD) (vw:Value) (ws:List WireD):Prop :=
 LD0 lo m1 m2 m3 m4 u vl cs vi xs vn ns vp ps∧∃bw,OList 4 56 OWireB u vw ws bw∧Own m4 u.heap.size bw
def bndB (cs:List CellD) (xs:List InstD) (ns:List ByteArray) (ps:List PortD) (ws:List WireD):Prop:=cs.length≤8∧xs.length≤6∧(5≤ns.length∧ns.length≤9)∧(3≤ps.length∧ps.length≤5)∧ws.length=ns.length
def BlkPost (w0 w:World) (b:Nat) (e:Ending) (w':World):Prop :=
 ∃(m1 m2 m3 m4:Nat) (A0:Option Addr) (n0:Nat) (A1:Option Addr) (n1:Nat) (A2:Option Addr) (n2:Nat) (A3:Option Addr) (n3:Nat) (A4:Option Addr) (n4:Nat) (cs:List CellD) (xs:List InstD) (ns:List ByteArray) (ps:List PortD) (ws:List WireD),
  e=.returned (.agg #[.slice A0 cs.length n0,.slice A1 xs.length n1,.slice A2 ns.length n2,.slice A3 ps.length n3,.slice A4 ws.length n4])∧BD (w.heap.size+1) m1 m2 m3 m4 w' (.slice A0 cs.length n0) cs (.slice A1 xs.length n1) xs (.slice A2 ns.length n2) ns (.slice A3 ps.length n3) ps (.slice A4 ws.length n4) ws∧bndB cs xs ns ps ws∧m2≤m3∧SrcAt w0 w' b∧Chg [b] w w'
theorem blk_fin {bx:List (Nat×TypeId×Array Value)} {w0 w ub wz w9:World} {b m1 m2 m3 m4 l0 l1 l2 l3 l4:Nat} {A0:Option Addr} {n0:Nat} {A1:Option Addr} {n1:Nat} {A2:Option Addr} {n2:Nat} {A3:Option Addr} {n3:Nat} {A4:Option Addr} {n4:Nat} {cs:List CellD} {xs:List InstD} {ns:List ByteArray} {ps:List PortD} {ws:List WireD} (hf:Fr bx w0 w b wz) (hl:LD0 (w.heap.size+1) m1 m2 m3 m4 wz (.slice A0 l0 n0) cs (.slice A1 l1 n1) xs (.slice A2 l2 n2) ns (.slice A3 l3 n3) ps) (hw:RowSt 4 56 OWireB w0 ub b (.slice A4 l4 n4) ws wz) (hu:m4≤ub.heap.size) (hm:m2≤m3)
  (e0:l0=cs.length) (e1:l1=xs.length) (e2:l2=ns.length) (e3:l3=ps.length) (e4:l4=ws.length) (hb:bndB cs xs ns ps ws) (c9:Chg [w.heap.size] wz w9) (ha:w.heap.size+1≤m4):BlkPost w0 w b (.returned (.agg #[.slice A0 l0 n0,.slice A1 l1 n1,.slice A2 l2 n2,.slice A3 l3 n3,.slice A4 l4 n4])) w9:=by
 subst e0 e1 e2 e3 e4
 obtain ⟨h1,h2,h3,h4,h5⟩:=hf
 obtain ⟨⟨bss,hr⟩,-,-⟩:=hw
 have ho:=hr.own
 refine ⟨m1,m2,m3,m4,_,_,_,_,_,_,_,_,_,_,cs,xs,ns,ps,ws,rfl,⟨hl.chg c9 (fun g hg=>by simp at hg;omega) hm,_,OList.same hr.list (c9.same (fun q hq=>(ho.2 q hq).2) (fun q hq hmm=>by have:=(ho.2 q hq).1;simp at hmm;omega)) (fun _ _ _ h g=>h.same g),ho.mono hu c9.size⟩,hb,hm,h1.chg c9 (by simp;omega) (fun g hg=>by simp at hg;omega),?_⟩
 exact ⟨c9.os.trans h2.os,c9.tape.trans h2.tape,c9.output.trans h2.output,Nat.le_trans h2.size c9.size,fun q hq hn=>(c9.block q (Nat.lt_of_lt_of_le hq h2.size) (by simp;omega)).trans (h2.block q hq hn)⟩
set_option maxHeartbeats 16000000 in
set_option maxRecDepth 10000 in
theorem l07Draw_any {w0 w:World} {b:Nat} (wild:Bool) (h:SrcAt w0 w b):Calls Tryz.prog 93 #[.pointer (some ⟨b,0,none⟩),.int .i64 6,.bool wild] w (BlkPost w0 w b):=by
 have hb:Hid (b<w.heap.size):=hideIt h.ge.2.2
 have HG:Hid (w0.heap.size≤w.heap.size):=hideIt h.ge.2.1.size
 have HS:=hideIt (h.alloc (.cells #[.slice none 0 0,.slice none 0 0,.slice none 0 0,.slice none 0 0,.slice none 0 0] 49))
 have HC:Hid (Chg [b] w (w.alloc (.cells #[.slice none 0 0,.slice none 0 0,.slice none 0 0,.slice none 0 0,.slice none 0 0] 49))):=hideIt ((Chg.refl _ _).alloc _)
 have RL:=hideIt (Blk.new w 49 #[.slice none 0 0,.slice none 0 0,.slice none 0 0,.slice none 0 0,.slice none 0 0])
 have NL0:Hid (w.heap.size∉[b]):=hideIt (by have:=hb.out;simp;omega)
 obtain ⟨iW,hiW,hzW,hsW,hbW⟩:=info_two info_Wire bytes_Wire
 clear h
 go_enter Tryz.func93,Tryz.ntmps93
 go_wp2_with fail
 refine (l03Draw_any HS.out).mono ?_
 rintro e u1 ⟨g,n,cs,bl,rfl,cl,ol,ow,hs,hc⟩
 have CL:=hideIt cl
 have OL:=hideIt ol
 have OW:Hid (Own (w.heap.size+1) u1.heap.size bl):=hideIt (by simpa using ow)
 have Z1:Hid (w.heap.size+1≤u1.heap.size):=hideIt (by simpa using hc.size)
 replace HS:=hideIt hs
 replace HC:=hideIt (HC.out.trans hc)
 replace RL:=hideIt (RL.out.chg hc NL0.out)
 clear cl ol ow hs hc
 go_wp2_with fail
 refine at_w (fun u=>SrcAt w0 u b∧Chg [b] w u∧Blk u w.heap.size 49 #[.slice none 0 0,.slice none 0 0,.slice none 0 0,.slice none 0 0,.slice none 0 0]∧Blk u u1.heap.size 26 #[.slice (some ⟨g,0,none⟩) 8 n]∧OList 7 112 OCellB u (.slice (some ⟨g,0,none⟩) 8 n) cs bl∧u1.heap.size+1=u.heap.size)
  ⟨HS.out.alloc _,HC.out.alloc _,RL.out.grows ((Grows.refl _).alloc _),Blk.new _ _ _,OList.same OL.out ((Chg.of_grows (bs:=[]) ((Grows.refl _).alloc _)).same (fun g hg=>(OW.out.2 g hg).2) (by simp)) (fun _ _ _ h g=>h.keep g),by simp⟩ (fun u2 hu=>?_)
 obtain ⟨s2,c2,rl2,b2,o2,z2⟩:=hu
 refine (l05Draw_any (w0:=w0) wild s2).mono ?_
 rintro e u3 ⟨mid,A1,n1,A2,n2,A3,n3,xs,ns,ps,bp,rfl,df,op,owp,hm,⟨x2,x6⟩,⟨y5,y9⟩,⟨p3,p5⟩,hs,hc⟩
 have NB1:Hid (u1.heap.size∉[b]):=hideIt (by have:=hb.out;have:=Z1.out;simp;omega)
 have DF4:=hideIt df
 have OP4:=hideIt op
 have OWP:=hideIt owp
 have ZM:=hideIt hm
 replace HS:=hideIt hs
 replace HC:=hideIt (c2.trans hc)
 replace RL:=hideIt (rl2.chg hc NL0.out)
 have BL:=hideIt (b2.chg hc NB1.out)
 replace OL:=hideIt (OList.same o2 (hc.same (fun q hq=>by have:=OW.out.2 q hq;omega) (fun q hq hm=>by have:=OW.out.2 q hq;have:=hb.out;simp at hm;omega)) (fun _ _ _ h g=>h.keep g))
 have Z2:Hid (u1.heap.size+1=u2.heap.size):=hideIt z2
 have Z3:Hid (u2.heap.size≤u3.heap.size):=hideIt hc.size
 clear s2 c2 rl2 b2 o2 z2 df op owp hm hs hc
 go_upto_region 3 with fail
 have MID:Hid (mid≤u3.heap.size):=hideIt (by
  obtain ⟨gp,cp,_,hg,-⟩:=OList.rowAt OP4.out (by omega)
  have:=OWP.out.2 gp hg
  omega)
 refine at_c (fun u=>Fr [(w.heap.size,49,#[.slice none 0 0,.slice none 0 0,.slice none 0 0,.slice none 0 0,.slice none 0 0]),(u1.heap.size,26,#[.slice (some ⟨g,0,none⟩) 8 n]),(u3.heap.size,31,#[.slice A1 xs.length n1,.slice A2 ns.length n2,.slice A3 ps.length n3])] w0 w b u∧LD0 (w.heap.size+1) u1.heap.size u2.heap.size mid u3.heap.size u (.slice (some ⟨g,0,none⟩) 8 n) cs (.slice A1 xs.length n1) xs (.slice A2 ns.length n2) ns (.slice A3 ps.length n3) ps∧u3.heap.size+1=u.heap.size) ⟨⟨HS.out.alloc _,HC.out.alloc _,fun q hq=>?_,hb.out,HG.out⟩,⟨bl,bp,OList.same OL.out ((Chg.of_grows (bs:=[]) ((Grows.refl _).alloc _)).same (fun g hg=>by have:=OW.out.2 g hg;have:=Z2.out;have:=Z3.out;omega) (by simp)) (fun _ _ _ h g=>h.keep g),OW.out,DF4.out.next (Chg.of_grows (bs:=[]) ((Grows.refl _).alloc _)) (by simp),OPortsB.same OP4.out ((Chg.of_grows (bs:=[]) ((Grows.refl _).alloc _)).same (fun g hg=>(OWP.out.2 g hg).2) (by simp)),OWP.out,by have:=Z2.out;omega,by simp,Z1.out,MID.out⟩,by simp⟩ (fun u5 hu=>?_)
 ·simp only [List.mem_cons,List.not_mem_nil,or_false] at hq
  have:=Z1.out
  have:=Z2.out
  have:=Z3.out
  rcases hq with rfl|rfl|rfl
  ·exact ⟨RL.out.grows ((Grows.refl _).alloc _),by dsimp only;omega⟩
  ·exact ⟨BL.out.grows ((Grows.refl _).alloc _),by dsimp only;omega⟩
  ·exact ⟨Blk.new _ _ _,by dsimp only;omega⟩
 obtain ⟨f5,l5,z5⟩:=hu
 have FR:=hideIt f5
 have LD:=hideIt l5
 have Z5_:=hideIt z5
 have NQ:Hid (∀q∈[b],q<w.heap.size+1∨(u1.heap.size≤q∧q<u2.heap.size)∨u3.heap.size≤q):=hideIt (fun q hq=>by simp at hq;have:=hb.out;omega)
 have LB5:Hid (b<u5.heap.size):=hideIt f5.1.ge.2.2
 have PB:Hid (PlBd (⟨xs,ns,ps⟩:DesignD)):=hideIt ⟨by dsimp only;omega,by dsimp only;omega,fun i x hx=>l5.des.2 x (List.mem_of_getElem? hx)⟩
 have RS0:Hid (RowSt 4 56 OWireB w0 u5 b (.slice (some ⟨u5.heap.size,0,none⟩) 0 0) [] (u5.alloc (.cells #[] 56))):=hideIt ⟨⟨[],ORow.empty (Nat.le_refl _)⟩,f5.1.alloc _,(Chg.refl _ _).alloc _⟩
 clear f5 l5 z5 HS HC RL BL OL OW DF4 OP4 OWP
 go_wp2
 go_loopw [9,10] (fun wv nv wr=>∃(k:Nat) (v:Value) (ws:List WireD),v=wv∧nv=.int .i64 (k:Int)∧k≤ns.length∧Hid (ws.length=k)∧Hid (RowSt 4 56 OWireB w0 u5 b v ws wr)) (fun _ nv _=>ns.length - (intOf nv).toNat)
 case atStart=>exact ⟨0,_,[],rfl,rfl,Nat.zero_le _,hideIt rfl,RS0⟩
 case round =>
  clear RS0
  obtain ⟨k,v,ws,rfl,rfl,hk,KL,RS⟩:=hrel
  obtain ⟨Aw,cw,ev0⟩:=RS.out.slice
  have ev:v=.slice Aw k cw:=by rw [ev0,KL.out]
  clear ev0
  subst ev
  have FW:=hideIt (FR.out.next RS.out.2.2 RS.out.2.1)
  have LW:=hideIt (LD.out.chg RS.out.2.2 NQ.out ZM.out)
  have KD:=hideIt (FW.out.2.2.1 (u3.heap.size,31,#[.slice A1 xs.length n1,.slice A2 ns.length n2,.slice A3 ps.length n3]) (by simp)).1
  have fD:=KD.out.frozen
  have lD:=KD.out.lt
  have d0:=KD.out.cell 0
  have d1:=KD.out.cell 1
  have d2:=KD.out.cell 2
  simp at d0 d1 d2
  by_cases hlt:k<ns.length
  ·have hlti:(k:Int)<(ns.length:Int):=by omega
   go_wp2_with fail
   refine (sSinks_b (k:Int) _ LW.out.des.1 PB.out).mono ?_
   rintro e v1 ⟨As,cs_,bs,rfl,-,-,g_⟩
   obtain ⟨m,hm⟩:∃m,m=(sinksL (⟨xs,ns,ps⟩:DesignD) (k:Int)).length:=⟨_,rfl⟩
   have m200:m≤200:=by rw [hm];exact Nat.le_trans (snkL_len _ _ _) (Nat.le_trans (places_lenB PB.out) (by decide))
   rw [←hm]
   have S1:=hideIt (RS.out.2.1.grows g_)
   have C1:Hid (Chg [b] wr v1):=hideIt (Chg.of_grows g_)
   clear g_ hm fD lD d0 d1 d2
   go_wp2_with fail
   refine (l07DrawWire_any (w0:=w0) m m200 S1.out).mono ?_
   rintro e v2 ⟨g0,c0,g1,c1,g2,c2,g3,c3,x,rfl,wst,-,h_,c_⟩
   have S2:=hideIt h_
   have C2:=hideIt (C1.out.trans c_)
   obtain ⟨ow_,own_⟩:=wst.owire
   have OWB:=hideIt (ow_.same ((Chg.of_grows (bs:=[]) ((Grows.refl v2).alloc (.cells #[.slice (some ⟨g0,0,none⟩) x.parent.length c0,.slice (some ⟨g1,0,none⟩) x.res.length c1,.slice (some ⟨g2,0,none⟩) x.cap.length c2,.slice (some ⟨g3,0,none⟩) x.sink.length c3] 56))).same (fun q hq=>(own_.2 q hq).2) (by simp)))
   have OWN:Hid (Own wr.heap.size (v2.alloc (.cells #[.slice (some ⟨g0,0,none⟩) x.parent.length c0,.slice (some ⟨g1,0,none⟩) x.res.length c1,.slice (some ⟨g2,0,none⟩) x.cap.length c2,.slice (some ⟨g3,0,none⟩) x.sink.length c3] 56)).heap.size [g0,g1,g2,g3]):=hideIt (own_.mono C1.out.size (by simp))
   have w10:ws.length≤1000:=by have:=KL.out;omega
   clear wst h_ c_ ow_ own_
   go_wp2_with (at_builtin;go_loud (refine wpList_append_st rfl _ _ 47 rfl Tryz.underlying47 hiW hzW hsW hbW rfl (by decide) rfl RS.out LB5.out (fun _ _ _ _ _ h g=>h.same g) (C2.out.alloc _) (S2.out.alloc _) ⟨v2.heap.size,0,none⟩ 1 [.slice (some ⟨g0,0,none⟩) x.parent.length c0,.slice (some ⟨g1,0,none⟩) x.res.length c1,.slice (some ⟨g2,0,none⟩) x.cap.length c2,.slice (some ⟨g3,0,none⟩) x.sink.length c3] x [g0,g1,g2,g3] rfl rfl (cells_new _ _ _) (by intro u hu;simp at hu;rcases hu with rfl|rfl|rfl|rfl<;>rfl) w10 OWB.out OWN.out ?_))
   intro v' w9 r1 r2
   have RS9:=hideIt r1
   have KL9:Hid ((ws++[x]).length=k+1):=hideIt (by rw [List.length_append,KL.out];rfl)
   clear r1 r2 FW LW KD S1 C1 S2 C2 OWB OWN RS KL
   go_wp2
   go_roundw
   case rel=>exact ⟨k+1,_,ws++[x],rfl,by go_num,by omega,KL9,RS9⟩
   case measure=>simp [intOf];omega
  ·have hle:¬(k:Int)<(ns.length:Int):=by omega
   have ke:k=ns.length:=by omega
   subst ke
   have KB:=hideIt (FW.out.2.2.1 (u1.heap.size,26,#[.slice (some ⟨g,0,none⟩) 8 n]) (by simp)).1
   have KR:=hideIt (FW.out.2.2.1 (w.heap.size,49,#[.slice none 0 0,.slice none 0 0,.slice none 0 0,.slice none 0 0,.slice none 0 0]) (by simp)).1
   have fB:=KB.out.frozen
   have lB:=KB.out.lt
   have b0:=KB.out.cell 0
   have fR:=KR.out.frozen
   have lR:=KR.out.lt
   have r0:=KR.out.cell 0
   have r1:=KR.out.cell 1
   have r2:=KR.out.cell 2
   have r3:=KR.out.cell 3
   have r4:=KR.out.cell 4
   simp at b0 r0 r1 r2 r3 r4
   have HF:Hid (∀w9,Chg [w.heap.size] wr w9→BlkPost w0 w b (.returned (.agg #[.slice (some ⟨g,0,none⟩) 8 n,.slice A1 xs.length n1,.slice A2 ns.length n2,.slice A3 ps.length n3,.slice Aw ns.length cw])) w9):=hideIt (fun w9 c9=>blk_fin FW.out LW.out RS.out (by have:=Z5_.out;omega) ZM.out CL.out.symm rfl rfl rfl KL.out.symm ⟨by rw [CL.out];decide,x6,⟨y5,y9⟩,⟨p3,p5⟩,KL.out⟩ c9 (by have:=Z1.out;have:=Z2.out;have:=Z3.out;omega))
   go_wp2
   refine bodyPost_ret (by simp [*,results,Tryz.results93,go_sem];try rfl) rfl ?_
   exact HF.out _ (by repeat with_reducible (first|exact Chg.refl _ _|refine Chg.setCell ?_ (by simp) _))
end Go.Proofs.YtlnpefiipdkafaaGreatDoor
/-
  A drawn block's wires: what is left when one of them turned.
-/
namespace Go.Proofs.YtlnpefiipdkafaaGreatDoor
open Go.RowKit
def WWire (w:World) (es:List Value) (x:WireD) (b:List Nat):Prop:=SR b w (fun w=>RWire w es x)
theorem OWireB.weak {w w':World} {es:List Value} {x:WireD} {b:List Nat} (h:OWireB w es x b) (g:SameOn b w w'):WWire w' es x b:=fun _ g2=>(h.same (g.trans g2)).reads
theorem WWire.list {w:World} {v:Value} {xs:List WireD} {b:List Nat} (h:OList 4 56 WWire w v xs b):SR b w (fun w=>RWires w v xs):=fun _ g=>OList.reads (OList.same h g fun _ _ _ h g=>SR.same h g) fun _ _ _ h=>SR.now h
/-- wires to be read: their blocks lie in [m4, mE), or from lo on -/
def WWs (m4 mE lo:Nat) (w:World) (vw:Value) (ws:List WireD):Prop:=∃bw,SR bw w (fun w=>RWires w vw ws)∧∀q∈bw,q<w.heap.size∧((m4≤q∧q<mE)∨lo≤q)
theorem wires_read {w w':World} {m4 mE lo:Nat} {v:Value} {xs:List WireD} {b ds:List Nat} (h:OList 4 56 OWireB w v xs b) (ho:Own m4 mE b) (hm:mE≤w.heap.size) (c:Chg ds w w') (hd:∀q∈ds,q<m4∨mE≤q):WWs m4 mE lo w' v xs:=by
 have h':=OList.same h (c.same (fun q hq=>by have:=ho.2 q hq;omega) (fun q hq hmm=>by have:=ho.2 q hq;have:=hd q hmm;omega)) (fun _ _ _ h g=>h.same g)
 exact ⟨b,fun w2 g=>OList.reads (OList.same h' g fun _ _ _ h g=>h.same g) fun _ _ _ h=>h.reads,fun q hq=>⟨by have:=ho.2 q hq;have:=c.size;omega,.inl (ho.2 q hq)⟩⟩
theorem WWs.tail {w:World} {m4 mE lo g o n c:Nat} {xs:List WireD} (h:WWs m4 mE lo w (.slice (some ⟨g,o,none⟩) n c) xs) (hn:1≤xs.length):WWs m4 mE lo w (.slice (some ⟨g,o+4,none⟩) (n - 1) (c - 1)) xs.tail:=by
 obtain ⟨bw,h1,h2⟩:=h
 exact ⟨bw,fun w2 g2=>RList.tail (h1 w2 g2) hn,h2⟩
theorem WWs.next {w w':World} {m4 mE lo:Nat} {v:Value} {xs:List WireD} {ds:List Nat} (h:WWs m4 mE lo w v xs) (c:Chg ds w w') (hd:∀q∈ds,¬((m4≤q∧q<mE)∨lo≤q)):WWs m4 mE lo w' v xs:=by
 obtain ⟨bw,h1,h2⟩:=h
 exact ⟨bw,h1.same (c.same (fun q hq=>(h2 q hq).1) (fun q hq hm=>hd q hm (h2 q hq).2)),fun q hq=>⟨Nat.lt_of_lt_of_le (h2 q hq).1 c.size,(h2 q hq).2⟩⟩
theorem ints_turn {w:World} {g c j:Nat} {xs:List Int} {z:Int} (h:OInts w (.slice (some ⟨g,0,none⟩) xs.length c) xs [g]) (hj:j<xs.length):OInts (w.setCell ⟨g,j,none⟩ (.int .i64 z)) (.slice (some ⟨g,0,none⟩) (xs.set j z).length c) (xs.set j z) [g]:=by
 rw [List.length_set]
 exact h.set_ hj z
theorem wire_at {m4 mE k:Nat} {u:World} {vw:Value} {ws:List WireD} {bw:List Nat} {x:WireD} (h:OList 4 56 OWireB u vw ws bw) (ho:Own m4 mE bw) (hm:mE≤u.heap.size) (hx:ws[k]?=some x) :
  ∃gw cw g0 c0 g1 c1 g2 c2 g3 c3:Nat,vw=.slice (some ⟨gw,0,none⟩) ws.length cw∧([gw,g0,g1,g2,g3].Nodup∧∀q∈[gw,g0,g1,g2,g3],m4≤q∧q<mE)∧((1≤x.parent.length∧x.parent.length≤8)∧1≤x.res.length∧1≤x.cap.length∧x.sink.length≤200)∧ws.length≤cw ∧
   (∀(uz:World) (ds:List Nat),Chg ds u uz→(∀q∈ds,q<m4∨mE≤q)→(uz.cell? ⟨gw,k * 4,none⟩=some (.slice (some ⟨g0,0,none⟩) x.parent.length c0)∧uz.cell? ⟨gw,k * 4+1,none⟩=some (.slice (some ⟨g1,0,none⟩) x.res.length c1)∧uz.cell? ⟨gw,k * 4+2,none⟩=some (.slice (some ⟨g2,0,none⟩) x.cap.length c2)∧uz.cell? ⟨gw,k * 4+3,none⟩=some (.slice (some ⟨g3,0,none⟩) x.sink.length c3))∧(∀o,uz.frozen? ⟨gw,o,none⟩=false) ∧
    OInts uz (.slice (some ⟨g0,0,none⟩) x.parent.length c0) x.parent [g0]∧OInts uz (.slice (some ⟨g1,0,none⟩) x.res.length c1) x.res [g1]∧OInts uz (.slice (some ⟨g2,0,none⟩) x.cap.length c2) x.cap [g2]∧OInts uz (.slice (some ⟨g3,0,none⟩) x.sink.length c3) x.sink [g3]) ∧
   (∀(uz:World) (ds:List Nat) (j:Nat) (z:Int),Chg ds u uz→(∀q∈ds,q<m4∨mE≤q)→j<x.parent.length→WWs m4 mE u.heap.size (uz.setCell ⟨g0,j,none⟩ (.int .i64 z)) vw (ws.set k { x with parent:=x.parent.set j z })) ∧
   (∀(uz:World) (ds:List Nat) (j:Nat) (z:Int),Chg ds u uz→(∀q∈ds,q<m4∨mE≤q)→j<x.res.length→WWs m4 mE u.heap.size (uz.setCell ⟨g1,j,none⟩ (.int .i64 z)) vw (ws.set k { x with res:=x.res.set j z })) ∧
   (∀(uz:World) (ds:List Nat) (j:Nat) (z:Int),Chg ds u uz→(∀q∈ds,q<m4∨mE≤q)→j<x.cap.length→WWs m4 mE u.heap.size (uz.setCell ⟨g2,j,none⟩ (.int .i64 z)) vw (ws.set k { x with cap:=x.cap.set j z })) ∧
   (∀(uz:World) (ds:List Nat) (v':Value) (S':List Int),Chg ds u uz→(∀q∈ds,q<m4∨mE≤q)→RowI u.heap.size uz v' S'→WWs m4 mE u.heap.size (uz.setCell ⟨gw,k * 4+3,none⟩ v') vw (ws.set k { x with sink:=S' })):=by
 have hk:k<ws.length:=(List.getElem?_eq_some_iff.1 hx).1
 have tr:∀(uz:World) (ds:List Nat),Chg ds u uz→(∀q∈ds,q<m4∨mE≤q)→OList 4 56 OWireB uz vw ws bw:=fun uz ds c hd=>OList.same h (c.same (fun q hq=>by have:=ho.2 q hq;omega) (fun q hq hmm=>by have:=ho.2 q hq;have:=hd q hmm;omega)) (fun _ _ _ h g=>h.same g)
 obtain ⟨gw,cw,cs,es,b,hv,hB,hgm,hgb,hbs,hbn,hel,hes,hO,-⟩:=OList.turn (O':=WWire) h ho.1 hx
 obtain ⟨⟨g0,c0,g1,c1,g2,c2,g3,c3,rfl,o0,o1,o2,o3,rfl⟩,hbd⟩:=hO
 have nd:[gw,g0,g1,g2,g3].Nodup:=List.nodup_cons.2 ⟨hgb,hbn⟩
 have hin:∀q∈[gw,g0,g1,g2,g3],m4≤q∧q<mE:=fun q hq=>by
  rcases List.mem_cons.1 hq with rfl|hq
  ·exact ho.2 _ hgm
  ·exact ho.2 _ (hbs q hq)
 have hcw:ws.length≤cw:=by
  obtain ⟨gp,cp,e,_,hl,-⟩:=OList.rowAt h (by omega)
  rw [hv] at e
  injection e with e1 e2 e3
  omega
 -- the element at a later world, and what a turn of it leaves
 have at_:∀(uz:World) (ds:List Nat),Chg ds u uz→(∀q∈ds,q<m4∨mE≤q)→SameOn [gw,g0,g1,g2,g3] u uz:=fun uz ds c hd=>c.same (fun q hq=>by have:=hin q hq;omega) (fun q hq hmm=>by have:=hin q hq;have:=hd q hmm;omega)
 have turn:∀(uz w2:World) (ds:List Nat) (gt:Nat) (cs':Array Value) (es':List Value) (y:WireD) (b':List Nat),Chg ds u uz→(∀q∈ds,q<m4∨mE≤q)→Chg [gt] uz w2→gt∈[gw,g0,g1,g2,g3]→Blk w2 gw 56 cs'→(∀m,m<k * 4∨k * 4+4≤m→cs'[m]?=cs[m]?)→es'.length=4→(∀(j:Nat) (u:Value),es'[j]?=some u→cs'[k * 4+j]?=some u)→WWire w2 es' y b'→(∀q∈b',q<w2.heap.size∧((m4≤q∧q<mE)∨u.heap.size≤q))→WWs m4 mE u.heap.size w2 vw (ws.set k y):=fun uz w2 ds gt cs' es' y b' c hd cy hgt hB2 hcs hel' hes' hW hb'=>by
  obtain ⟨gw',cw',cs0,es0,b0,hv0,hB0,hgm0,hgb0,hbs0,hbn0,hel0,hes0,hO0,FIN⟩:=OList.turn (O':=WWire) (tr uz ds c hd) ho.1 hx
  have eg:gw'=gw:=by
   rw [hv] at hv0
   injection hv0 with q1
   injection q1 with q1
   injection q1 with q1
   exact q1.symm
  subst eg
  have ecs:cs0=cs:=by
   have h1:uz.heap[gw']?=some (.cells cs0 56):=hB0
   have h2:uz.heap[gw']?=some (.cells cs 56):=(at_ uz ds c hd gw' (by simp)).trans hB
   rw [h1] at h2
   injection h2 with h2
   injection h2
  subst ecs
  have eb:b0=[g0,g1,g2,g3]:=by
   obtain ⟨⟨a0,d0,a1,d1,a2,d2,a3,d3,e,-,-,-,-,rfl⟩,-⟩:=hO0
   have key:∀(j:Nat) (v1 v2:Value),es0[j]?=some v1→[Value.slice (some ⟨g0,0,none⟩) x.parent.length c0,.slice (some ⟨g1,0,none⟩) x.res.length c1,.slice (some ⟨g2,0,none⟩) x.cap.length c2,.slice (some ⟨g3,0,none⟩) x.sink.length c3][j]?=some v2→v1=v2:=fun j v1 v2 h1 h2=>by
    have:=hes0 j v1 h1
    rw [hes j v2 h2] at this
    injection this with this
    exact this.symm
   subst e
   have k0:=key 0 _ _ rfl rfl
   have k1:=key 1 _ _ rfl rfl
   have k2:=key 2 _ _ rfl rfl
   have k3:=key 3 _ _ rfl rfl
   injection k0 with k0
   injection k0 with k0
   injection k0 with k0
   injection k1 with k1
   injection k1 with k1
   injection k1 with k1
   injection k2 with k2
   injection k2 with k2
   injection k2 with k2
   injection k3 with k3
   injection k3 with k3
   injection k3 with k3
   rw [k0,k1,k2,k3]
  subst eb
  obtain ⟨bs',hL,hmem⟩:=FIN w2 cs' es' y b' hB2 hcs hel' hes' hW (fun es z d hd hz=>hz.weak (cy.same (fun q hq=>by have:=ho.2 q (hd q hq).1;have:=c.size;omega) (fun q hq hmm=>by
   simp only [List.mem_singleton] at hmm
   subst hmm
   rcases List.mem_cons.1 hgt with h9|h9
   ·exact (hd q hq).2.2 h9
   ·exact (hd q hq).2.1 h9)))
  refine ⟨bs',WWire.list hL,fun q hq=>?_⟩
  rcases hmem q hq with h9|h9
  ·exact ⟨by have:=ho.2 q h9;have:=c.size;have:=cy.size;omega,.inl (ho.2 q h9)⟩
  ·exact hb' q h9
 have bok:∀(uz w2:World) (ds:List Nat) (gt:Nat),Chg ds u uz→Chg [gt] uz w2→∀q∈[g0,g1,g2,g3],q<w2.heap.size∧((m4≤q∧q<mE)∨u.heap.size≤q):=fun uz w2 ds gt c cy q hq=>by
  have:=hin q (List.mem_cons_of_mem _ hq)
  have:=c.size
  have:=cy.size
  exact ⟨by omega,.inl (by omega)⟩
 have ne:gw≠g0∧gw≠g1∧gw≠g2∧gw≠g3∧g0≠g1∧g0≠g2∧g0≠g3∧g1≠g2∧g1≠g3∧g2≠g3:=by
  simp only [List.nodup_cons,List.mem_cons,List.not_mem_nil,or_false,not_or] at nd
  omega
 obtain ⟨n1,n2,n3,n4,n5,n6,n7,n8,n9,n10⟩:=ne
 refine ⟨gw,cw,g0,c0,g1,c1,g2,c2,g3,c3,hv,⟨nd,hin⟩,⟨hbd.1,by omega,by omega,hbd.2.2.2⟩,hcw,fun uz ds c hd=>?_,fun uz ds j z c hd hj=>?_,fun uz ds j z c hd hj=>?_,fun uz ds j z c hd hj=>?_,fun uz ds v' S' c hd hr=>?_⟩
 ·have g:=at_ uz ds c hd
  have hB':Blk uz gw 56 cs:=(g gw (by simp)).trans hB
  refine ⟨⟨?_,?_,?_,?_⟩,hB'.frozen,o0.same (g.sub (by simp)),o1.same (g.sub (by simp)),o2.same (g.sub (by simp)),o3.same (g.sub (by simp))⟩
  ·rw [hB'.cell];exact hes 0 _ rfl
  ·rw [hB'.cell];exact hes 1 _ rfl
  ·rw [hB'.cell];exact hes 2 _ rfl
  ·rw [hB'.cell];exact hes 3 _ rfl
 ·have g:=at_ uz ds c hd
  have cz:Chg [g0] uz (uz.setCell ⟨g0,j,none⟩ (.int .i64 z)):=(Chg.refl _ _).setCell (by simp) _
  have hB':Blk uz gw 56 cs:=(g gw (by simp)).trans hB
  refine turn uz _ ds g0 cs _ { x with parent:=x.parent.set j z } _ c hd cz (by simp) (hB'.chg cz (by simpa using n1)) (fun _ _=>rfl) rfl hes (OWireB.weak (b:=[g0,g1,g2,g3]) ⟨⟨g0,c0,g1,c1,g2,c2,g3,c3,?_,ints_turn (o0.same (g.sub (by simp))) hj,(o1.same (g.sub (by simp))).chg cz (by simp;omega),(o2.same (g.sub (by simp))).chg cz (by simp;omega),(o3.same (g.sub (by simp))).chg cz (by simp;omega),rfl⟩,?_⟩ (SameOn.refl _ _)) (bok uz _ ds g0 c cz)
  ·simp
  ·simpa using hbd
 ·have g:=at_ uz ds c hd
  have cz:Chg [g1] uz (uz.setCell ⟨g1,j,none⟩ (.int .i64 z)):=(Chg.refl _ _).setCell (by simp) _
  have hB':Blk uz gw 56 cs:=(g gw (by simp)).trans hB
  refine turn uz _ ds g1 cs _ { x with res:=x.res.set j z } _ c hd cz (by simp) (hB'.chg cz (by simpa using n2)) (fun _ _=>rfl) rfl hes (OWireB.weak (b:=[g0,g1,g2,g3]) ⟨⟨g0,c0,g1,c1,g2,c2,g3,c3,?_,(o0.same (g.sub (by simp))).chg cz (by simp;omega),ints_turn (o1.same (g.sub (by simp))) hj,(o2.same (g.sub (by simp))).chg cz (by simp;omega),(o3.same (g.sub (by simp))).chg cz (by simp;omega),rfl⟩,?_⟩ (SameOn.refl _ _)) (bok uz _ ds g1 c cz)
  ·simp
  ·simpa using hbd
 ·have g:=at_ uz ds c hd
  have cz:Chg [g2] uz (uz.setCell ⟨g2,j,none⟩ (.int .i64 z)):=(Chg.refl _ _).setCell (by simp) _
  have hB':Blk uz gw 56 cs:=(g gw (by simp)).trans hB
  refine turn uz _ ds g2 cs _ { x with cap:=x.cap.set j z } _ c hd cz (by simp) (hB'.chg cz (by simpa using n3)) (fun _ _=>rfl) rfl hes (OWireB.weak (b:=[g0,g1,g2,g3]) ⟨⟨g0,c0,g1,c1,g2,c2,g3,c3,?_,(o0.same (g.sub (by simp))).chg cz (by simp;omega),(o1.same (g.sub (by simp))).chg cz (by simp;omega),ints_turn (o2.same (g.sub (by simp))) hj,(o3.same (g.sub (by simp))).chg cz (by simp;omega),rfl⟩,?_⟩ (SameOn.refl _ _)) (bok uz _ ds g2 c cz)
  ·simp
  ·simpa using hbd
 ·have g:=at_ uz ds c hd
  have cz:Chg [gw] uz (uz.setCell ⟨gw,k * 4+3,none⟩ v'):=(Chg.refl _ _).setCell (by simp) _
  have hB':Blk uz gw 56 cs:=(g gw (by simp)).trans hB
  have hsz:k * 4+3<cs.size:=(Array.getElem?_eq_some_iff.1 (hes 3 _ rfl)).1
  obtain ⟨A',c',bs',ev,os,ow⟩:=own_oints hr
  refine turn uz _ ds gw _ [.slice (some ⟨g0,0,none⟩) x.parent.length c0,.slice (some ⟨g1,0,none⟩) x.res.length c1,.slice (some ⟨g2,0,none⟩) x.cap.length c2,v'] { x with sink:=S' } ([g0,g1,g2]++bs') c hd cz (by simp) (hB'.set_ (k * 4+3) v') (fun m hm=>by rw [Array.getElem?_setIfInBounds_ne (by omega)]) rfl (fun j w hw=>?_) (fun w2 g2'=>?_) (fun q hq=>?_)
  ·match j,hw with
   | 0,hw=>rw [Array.getElem?_setIfInBounds_ne (by omega)];exact hes 0 w hw
   | 1,hw=>rw [Array.getElem?_setIfInBounds_ne (by omega)];exact hes 1 w hw
   | 2,hw=>rw [Array.getElem?_setIfInBounds_ne (by omega)];exact hes 2 w hw
   | 3,hw=>simp at hw;subst hw;rw [Array.getElem?_setIfInBounds_self_of_lt hsz]
  ·have k0:=((o0.same (g.sub (by simp))).chg cz (by simp;omega)).same (g2'.sub (by simp))
   have k1:=((o1.same (g.sub (by simp))).chg cz (by simp;omega)).same (g2'.sub (by simp))
   have k2:=((o2.same (g.sub (by simp))).chg cz (by simp;omega)).same (g2'.sub (by simp))
   have k3:=(os.chg cz (fun q hq hm=>by simp at hm;have:=(ow.2 q hq).1;have:=hin gw (by simp);omega)).same (g2'.sub (by simp +contextual))
   exact ⟨_,_,_,_,rfl,k0.reads,k1.reads,k2.reads,k3.reads⟩
  ·have hs1:=c.size
   have hs2:=cz.size
   rcases List.mem_append.1 hq with hq|hq
   ·have:=hin q (by simp at hq ⊢;omega)
    exact ⟨by omega,.inl (by omega)⟩
   ·have:=ow.2 q hq
    exact ⟨by omega,.inr (by omega)⟩
end Go.Proofs.YtlnpefiipdkafaaGreatDoor
