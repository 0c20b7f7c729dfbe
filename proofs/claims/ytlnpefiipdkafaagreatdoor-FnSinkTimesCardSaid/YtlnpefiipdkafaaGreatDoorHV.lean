/-
  Draws of tables.
-/
import Derived.Test.YtlnpefiipdkafaaGreatDoorHU
import Derived.Test.YtlnpefiipdkafaaGreatDoorGJ
namespace Go.Proofs.YtlnpefiipdkafaaGreatDoor
open Go.RowKit
theorem ownsRow_chg {w w':World} {base n:Nat} {t:TypeId} {v:Value} {xs:List Value} {bs:List Nat} (h:w.ownsRow base t 1 v n xs) (c:Chg bs w w') (hb:∀g∈bs,g<base):w'.ownsRow base t 1 v n xs:=by
 obtain ⟨hl,⟨rfl,h0⟩|⟨g,cp,cur,rfl,hg,hk,rest⟩⟩:=h
 ·exact ⟨hl,.inl ⟨rfl,h0⟩⟩
 ·have hlt:g<w.heap.size:=(Array.getElem?_eq_some_iff.1 hk).1
  exact ⟨hl,.inr ⟨g,cp,cur,rfl,hg,(c.block g hlt (fun hm=>by have:=hb g hm;omega)).trans hk,rest⟩⟩
theorem SrcAt.grown {w0 w w':World} {b:Nat} {row:Option Nat} (h:SrcAt w0 w b) (hg:w.grownBy w' row) (hr:∀k,row=some k→b<k):SrcAt w0 w' b:=by
 have q:=h.ge
 have c:Chg row.toList w w':=(Chg.refl _ w).grown hg (fun k e=>.inl (by subst e;simp))
 refine h.chg c (fun hm=>?_) (fun g hm=>?_)
 ·cases row with
  | none=>simp at hm
  | some k=>simp at hm;have:=hr k rfl;omega
 ·cases row with
  | none=>simp at hm
  | some k=>simp at hm;have:=hr k rfl;omega
theorem own_ge {w:World} {base n:Nat} {t:TypeId} {v:Value} {xs:List Value} (h:w.ownsRow base t 1 v n xs):∀k,v.ownBlock=some k→base≤k∧k<w.heap.size:=fun k e=>h.lt k e

set_option maxHeartbeats 8000000 in
theorem drawAxis_any {w0 w:World} {b:Nat} (step:Int) (h:SrcAt w0 w b) (s1:1≤step) (s2:step≤100) :
  Calls Tryz.prog 135 #[.pointer (some ⟨b,0,none⟩),.int .i64 step] w fun e w'=>∃(v:Value) (xs:List Int),e=.returned v∧w'.ownsRow (w.heap.size) 2 1 v (xs).length ((xs).map (Value.int .i64))∧(1≤xs.length∧xs.length≤3)∧(∀x∈xs,0≤x∧x≤1000)∧SrcAt w0 w' b∧Chg [b] w w':=by
 have hlt:Hid (b<w.heap.size):=hideIt h.ge.2.2
 have HB:Hid (∀g∈[b],g<w.heap.size):=hideIt (fun g hg=>by simp at hg;subst hg;exact hlt.out)
 have HS:=hideIt (h.grows ((Grows.refl w).alloc (.cells #[] 2)))
 have HC:Hid (Chg [b] w (w.alloc (.cells #[] 2))):=hideIt ((Chg.refl _ _).alloc _)
 have OW:Hid ((w.alloc (.cells #[] 2)).ownsRow w.heap.size 2 1 (.slice (some ⟨w.heap.size,0,none⟩) 0 0) 0 []):=hideIt ⟨rfl,.inr ⟨_,0,#[],rfl,Nat.le_refl _,Blk.new w _ _,Nat.le_refl _,Nat.zero_le _,rfl,rfl⟩⟩
 obtain ⟨i0,hi,hz0,hz1,hz2⟩:=info_parts info_i64'
 clear h
 go_enter Tryz.func135,Tryz.ntmps135
 go_wp2_with fail
 refine (l01Next_any (w0:=w0) step HS.out).mono ?_
 rintro e u1 ⟨r1,rfl,r1a,r1b,h_,c_⟩
 replace HS:=hideIt h_
 replace OW:=hideIt (ownsRow_chg OW.out c_ HB.out)
 replace HC:=hideIt (HC.out.trans c_)
 clear h_ c_
 have r1c:=r1b (by omega)
 clear r1b
 go_wp2_with fail
 refine (l01Next_any (w0:=w0) 3 HS.out).mono ?_
 rintro e u2 ⟨r2,rfl,r2a,r2b,h_,c_⟩
 replace HS:=hideIt h_
 replace OW:=hideIt (ownsRow_chg OW.out c_ HB.out)
 replace HC:=hideIt (HC.out.trans c_)
 clear h_ c_
 have r2c:=r2b (by omega)
 clear r2b
 go_wp2
 go_loopw [5,6,7] (fun s a n wr=>∃(nv:Value) (xs:List Int) (at_ k:Int),nv=s∧a=.int .i64 at_∧n=.int .i64 k∧0≤k∧(xs.length:Int)+k≤3∧1≤(xs.length:Int)+k∧0≤at_∧at_≤((xs.length:Int)+1) * 101∧Hid (∀x∈xs,0≤x∧x≤1000)∧Hid (wr.ownsRow (w.heap.size) 2 1 nv (xs).length ((xs).map (Value.int .i64)))∧Hid (SrcAt w0 wr b)∧Hid (Chg [b] w wr)) (fun _ _ n _=>(intOf n).toNat)
 case atStart=>exact ⟨_,[],_,_,rfl,rfl,rfl,by omega,by simp;omega,by simp;omega,r1a,by simp;omega,hideIt (fun x hx=>by cases hx),OW,HS,HC⟩
 case round =>
  clear OW HS HC
  obtain ⟨nv,xs,at_,k,rfl,rfl,rfl,h0,h3,h1,a0,a1,EB,OW,HS,HC⟩:=hrel
  by_cases hk:0<k
  ·have hxl:xs.length≤2:=by omega
   have a2:at_≤303:=by omega
   have own1:=hideIt (OW.out.alloc (.cells #[.int .i64 at_] 2))
   have HS1:=hideIt (HS.out.grows ((Grows.refl _).alloc (.cells #[.int .i64 at_] 2)))
   have HC1:=hideIt (HC.out.alloc (.cells #[.int .i64 at_] 2))
   have nlt:Hid (∀q,nv.ownBlock=some q→w.heap.size≤q∧q<wr.heap.size):=hideIt OW.out.lt
   clear OW HS HC
   go_wp2_with (at_builtin;refine wpList_append_own_at _ rfl _ _ 39 rfl (w.heap.size) 2 i0 (.int .i64 0) 1 8 Tryz.underlying39 hi hz0 hz1 hz2 rfl (by decide) nv xs.length (xs.map (Value.int .i64)) rfl own1.out ⟨wr.heap.size,0,none⟩ 1 1 [.int .i64 at_] rfl ?c1 ?c2 ?c3 ?c4 ?c5 ?c6 ?_)
   case c1=>simp
   case c2 =>
    intro j u hj
    match j,hj with
    | 0,hj=>simp at hj;subst hj;simp [Addr.add]
   case c3=>intro u hu;simp at hu;subst hu;rfl
   case c4=>unfold maxLen;omega
   case c5=>omega
   case c6=>exact HC1.out.size
   intro v' w4 hown3 hgrow hnil hat
   have HC:=hideIt (HC1.out.grown hgrow (fun q e=>.inr (nlt.out q e).1))
   have HS:=hideIt (HS1.out.grown hgrow (fun q e=>Nat.lt_of_lt_of_le hlt.out (nlt.out q e).1))
   have OW:Hid (w4.ownsRow (w.heap.size) 2 1 v' (xs++[at_]).length ((xs++[at_]).map (Value.int .i64))):=hideIt (by rw [List.length_append,List.map_append];exact hown3)
   have EB2:Hid (∀x∈xs++[at_],0≤x∧x≤1000):=hideIt (fun x hx=>by
    rcases List.mem_append.1 hx with hx|hx
    ·exact EB.out x hx
    ·simp at hx;subst hx;omega)
   clear hown3 hgrow hnil hat own1 HS1 HC1 nlt EB
   go_wp2_with fail
   refine (l01Next_any (w0:=w0) step HS.out).mono ?_
   rintro e u3 ⟨r3,rfl,r3a,r3b,h_,c_⟩
   replace HS:=hideIt h_
   replace OW:=hideIt (ownsRow_chg OW.out c_ HB.out)
   replace HC:=hideIt (HC.out.trans c_)
   clear h_ c_
   have r3c:=r3b (by omega)
   clear r3b
   go_wp2
   go_roundw
   case rel=>exact ⟨_,xs++[at_],at_+1+r3,k - 1,rfl,by go_num,by go_num,by omega,by simp;omega,by simp;omega,by omega,by simp;omega,EB2,OW,HS,HC⟩
   case measure=>simp [intOf];omega
  ·obtain rfl:k=0:=by omega
   go_wp2
   go_ret
   exact ⟨_,rfl,xs,OW.out,by omega,EB.out,HS.out,HC.out⟩

theorem own_cells {w:World} {base:Nat} {v:Value} {xs:List Int} (h:w.ownsRow base 2 1 v xs.length (xs.map (Value.int .i64))) (hn:1≤xs.length) :
  ∃g c:Nat,v=.slice (some ⟨g,0,none⟩) xs.length c∧base≤g∧g<w.heap.size∧xs.length≤c∧c≤maxLen∧∀(j:Nat) (x:Int),xs[j]?=some x→w.cell? ⟨g,j,none⟩=some (.int .i64 x):=by
 obtain ⟨hl,⟨rfl,h0⟩|⟨g,c,cur,rfl,hb,hg,h1,h2,h3,h4⟩⟩:=h
 ·omega
 ·have hB:Blk w g 2 cur:=hg
  refine ⟨g,c,rfl,hb,hB.lt,h1,h2,fun j x hx=>?_⟩
  have hi:j<xs.length:=(List.getElem?_eq_some_iff.1 hx).1
  have h5:(cur.toList.take (xs.length * 1))[j]?=some (.int .i64 x):=by rw [h4,List.getElem?_map,hx];rfl
  rw [Nat.mul_one,List.getElem?_take_of_lt hi] at h5
  rw [hB.cell]
  simpa using h5
theorem ownsRow_base {w:World} {base lo n:Nat} {t:TypeId} {v:Value} {xs:List Value} (h:w.ownsRow base t 1 v n xs) (hl:lo≤base):w.ownsRow lo t 1 v n xs:=by
 obtain ⟨h1,h2|⟨g,c,cur,hv,hb,rest⟩⟩:=h
 ·exact ⟨h1,.inl h2⟩
 ·exact ⟨h1,.inr ⟨g,c,cur,hv,Nat.le_trans hl hb,rest⟩⟩
theorem own_slice {w:World} {base n:Nat} {t:TypeId} {v:Value} {xs:List Value} (h:w.ownsRow base t 1 v n xs):∃(A:Option Addr) (c:Nat),v=.slice A n c:=by
 obtain ⟨hl,⟨rfl,h0⟩|⟨g,c,cur,rfl,_⟩⟩:=h
 ·exact ⟨none,0,by rw [h0]⟩
 ·exact ⟨_,_,rfl⟩
def bndT (t:TableD):Prop:=(1≤t.slews.length∧t.slews.length≤3)∧(1≤t.loads.length∧t.loads.length≤3)∧t.values.length=t.slews.length * t.loads.length∧(∀x∈t.slews,0≤x∧x≤1000)∧(∀x∈t.loads,0≤x∧x≤1000)∧∀x∈t.values,-1000≤x∧x≤2000
/-- the state of the loop that draws a table's values -/
def DrawSt (w0 u2:World) (b:Nat) (nv:Value) (ys:List Int) (wr:World):Prop:=wr.ownsRow (u2.heap.size) 2 1 nv (ys).length ((ys).map (Value.int .i64))∧SrcAt w0 wr b∧Chg [b] u2 wr∧∀x∈ys,-1000≤x∧x≤1000+20 * (ys.length:Int)
theorem DrawSt.next {w0 u2 wr w':World} {b:Nat} {nv:Value} {ys:List Int} (h:DrawSt w0 u2 b nv ys wr) (hb:b<u2.heap.size) (c:Chg [b] wr w') (s:SrcAt w0 w' b):DrawSt w0 u2 b nv ys w' :=
 ⟨ownsRow_chg h.1 c (fun g hg=>by simp at hg;subst hg;exact hb),s,h.2.2.1.trans c,h.2.2.2⟩
theorem DrawSt.drew {w0 u2 wr:World} {b:Nat} {nv:Value} {ys:List Int} (h:DrawSt w0 u2 b nv ys wr):DrawSt w0 u2 b nv ys wr.drew :=
 ⟨h.1,h.2.1.grows (Grows.drew (Grows.refl _)),h.2.2.1.drew,h.2.2.2⟩
theorem DrawSt.drewN {w0 u2 wr:World} {b:Nat} {nv:Value} {ys:List Int} (h:DrawSt w0 u2 b nv ys wr) (n:Nat):DrawSt w0 u2 b nv ys (wr.drewN n) :=
 ⟨h.1,h.2.1.grows (Grows.drewN (Grows.refl _) _),h.2.2.1.drewN n,h.2.2.2⟩
theorem DrawSt.cells {w0 u2 wr:World} {b:Nat} {nv:Value} {ys:List Int} (h:DrawSt w0 u2 b nv ys wr) {g c n:Nat} (e:nv=.slice (some ⟨g,0,none⟩) n c) {j:Nat} {x:Int} (hx:ys[j]?=some x):wr.cell? ⟨g,j,none⟩=some (.int .i64 x):=by
 have hj:=(List.getElem?_eq_some_iff.1 hx).1
 obtain ⟨g',c',e',-,-,-,-,h6⟩:=own_cells h.1 (by omega)
 rw [e] at e'
 injection e' with e1 e2 e3
 injection e1 with e1
 injection e1 with e1
 subst e1
 exact h6 _ _ hx
theorem DrawSt.held {w0 u2 wr:World} {b:Nat} {ys:List Int} {g c:Nat} (h:DrawSt w0 u2 b (.slice (some ⟨g,0,none⟩) ys.length c) ys wr) {j:Nat} {x:Int} (hx:ys[j]?=some x):Hid (DrawSt w0 u2 b (.slice (some ⟨g,0,none⟩) ys.length c) ys wr)∧wr.cell? ⟨g,j,none⟩=some (.int .i64 x):=⟨hideIt h,h.cells rfl hx⟩
set_option maxHeartbeats 8000000 in
theorem l02Draw_any {w0 w:World} {b:Nat} (base:Int) (h:SrcAt w0 w b) (s1:-1000≤base) (s2:base≤500) :
  Calls Tryz.prog 120 #[.pointer (some ⟨b,0,none⟩),.int .i64 base] w fun e w'=>∃(a1 a2 a3:Value) (t:TableD) (bs:List Nat),e=.returned (.agg #[a1,a2,a3])∧OTable w' [a1,a2,a3] t bs∧Own w.heap.size w'.heap.size bs∧bndT t∧SrcAt w0 w' b∧Chg [b] w w'∧w'.ownsRow (w.heap.size+1) 2 1 a2 t.loads.length (t.loads.map (Value.int .i64)):=by
 have hlt:Hid (b<w.heap.size):=hideIt h.ge.2.2
 have HG:Hid (w0.heap.size≤w.heap.size):=hideIt h.ge.2.1.size
 have HS:=hideIt (h.grows ((Grows.refl w).alloc (.cells #[.slice none 0 0,.slice none 0 0,.slice none 0 0] 136)))
 have HC:Hid (Chg [b] w (w.alloc (.cells #[.slice none 0 0,.slice none 0 0,.slice none 0 0] 136))):=hideIt ((Chg.refl _ _).alloc _)
 have R:=hideIt (Blk.new w 136 #[.slice none 0 0,.slice none 0 0,.slice none 0 0])
 have NR:Hid (w.heap.size∉[b]):=hideIt (by have:=hlt.out;simp;omega)
 obtain ⟨i0,hi,hz0,hz1,hz2⟩:=info_parts info_i64'
 clear h
 go_enter Tryz.func120,Tryz.ntmps120
 go_wp2_with fail
 refine (drawAxis_any (w0:=w0) 60 HS.out (by omega) (by omega)).mono ?_
 rintro e u1 ⟨vs,xs,rfl,ow1,⟨n1,n2⟩,bx,h_,c_⟩
 obtain ⟨A1,c1,b1,rfl,o1,w1⟩:=own_oints ow1
 have O1:=hideIt o1
 have W1:Hid (Own (w.heap.size+1) u1.heap.size b1):=hideIt (by simpa using w1)
 clear o1 w1
 have B1:=hideIt bx
 replace HS:=hideIt h_
 replace HC:=hideIt (HC.out.trans c_)
 replace R:=hideIt (R.out.chg c_ NR.out)
 have S1:Hid (w.heap.size+1≤u1.heap.size):=hideIt (by simpa using c_.size)
 clear ow1 bx h_ c_
 go_wp2_with fail
 refine (drawAxis_any (w0:=w0) 40 HS.out (by omega) (by omega)).mono ?_
 rintro e u2 ⟨vl,xl,rfl,ow2,⟨m1,m2⟩,bl,h_,c_⟩
 obtain ⟨A2,c2,b2,rfl,o2,w2⟩:=own_oints ow2
 have OR:=hideIt (ownsRow_base ow2 S1.out)
 have O2:=hideIt o2
 have W2:=hideIt w2
 clear o2 w2
 have B2:=hideIt bl
 replace O1:=hideIt (O1.out.chg c_ (fun g hg=>by have:=W1.out.2 g hg;have:=hlt.out;simp;omega))
 replace HS:=hideIt h_
 replace HC:=hideIt (HC.out.trans c_)
 replace R:=hideIt (R.out.chg c_ NR.out)
 have S2:Hid (u1.heap.size≤u2.heap.size):=hideIt c_.size
 clear ow2 bl h_ c_
 have lt2:Hid (b<u2.heap.size):=hideIt (by have:=hlt.out;have:=S1.out;have:=S2.out;omega)
 have D0:Hid (DrawSt w0 u2 b (.slice (some ⟨u2.heap.size,0,none⟩) 0 0) [] (u2.alloc (.cells #[] 2))):=hideIt ⟨⟨rfl,.inr ⟨_,0,#[],rfl,Nat.le_refl _,Blk.new u2 _ _,Nat.le_refl _,Nat.zero_le _,rfl,rfl⟩⟩,HS.out.grows ((Grows.refl _).alloc _),(Chg.refl _ _).alloc _,fun x hx=>by cases hx⟩
 have nn:xs.length * xl.length≤9:=Nat.mul_le_mul n2 m2
 have ml:((xs.length * xl.length:Nat):Int)=(xs.length:Int) * (xl.length:Int):=Int.natCast_mul _ _
 have nz:((xl.length:Int)==0)=false:=by rw [beq_eq_false_iff_ne];omega
 obtain ⟨N,hN⟩:∃N,N=xs.length * xl.length:=⟨_,rfl⟩
 go_wp2
 go_loopw [7,9,10] (fun s z _ wr=>∃(nv:Value) (ys:List Int) (i:Nat),nv=s∧ys.length=i∧i≤N∧z=.int .i64 (i:Int)∧Hid (DrawSt w0 u2 b nv ys wr)) (fun _ z _ _=>N - (intOf z).toNat)
 case atStart=>exact ⟨_,[],0,rfl,rfl,Nat.zero_le _,rfl,D0⟩
 case round =>
  obtain ⟨nv,ys,i,rfl,rfl,hiN,rfl,DS⟩:=hrel
  by_cases hk:ys.length<N
  ·have hkd:(ys.length:Int)<(xs.length:Int) * (xl.length:Int):=by rw [←ml,←hN];omega
   go_wp2_with fail
   refine (l01Next_any (w0:=w0) _ DS.out.2.1).mono ?_
   rintro e u4 ⟨r1,rfl,r1a,r1b,h_,c_⟩
   replace DS:=hideIt (DS.out.next lt2.out c_ h_)
   clear h_ c_
   have r1c:=r1b (by omega)
   clear r1b
   by_cases hm:(0:Int)<(ys.length:Int) % (xl.length:Int)
   ·have hk1:1≤ys.length:=by
     rcases Nat.eq_zero_or_pos ys.length with e|e
     ·rw [e] at hm;simp at hm
     ·exact e
    have hmd:decide ((0:Int)<(ys.length:Int) % (xl.length:Int))=true:=by simpa using hm
    clear hm
    by_cases hn:xl.length≤ys.length
    ·have hnd:decide (xl.length≤ys.length)=true:=by simpa using hn
     obtain ⟨g,c,rfl,hg1,hg2,hc1,hc2,-⟩:=own_cells DS.out.1 (by omega)
     obtain ⟨jy1,h_⟩:∃j:Nat,j=ys.length - 1:=⟨_,rfl⟩
     have y1l:jy1<ys.length:=by omega
     have y1w:IntKind.i64.wrap ((ys.length:Int) - 1)=(jy1:Int):=by rw [Go.IntWalk.i64_in _ (by omega)];omega
     clear h_
     obtain ⟨y1,h_⟩:∃y1,ys[jy1]?=some y1:=⟨_,List.getElem?_eq_getElem y1l⟩
     have y1b:=DS.out.2.2.2 y1 (List.mem_of_getElem? h_)
     have y1e:=hideIt h_
     clear h_
     obtain ⟨jy2,h_⟩:∃j:Nat,j=ys.length - xl.length:=⟨_,rfl⟩
     have y2l:jy2<ys.length:=by omega
     have y2w:IntKind.i64.wrap ((ys.length:Int) - (xl.length:Int))=(jy2:Int):=by rw [Go.IntWalk.i64_in _ (by omega)];omega
     clear h_
     obtain ⟨y2,h_⟩:∃y2,ys[jy2]?=some y2:=⟨_,List.getElem?_eq_getElem y2l⟩
     have y2b:=DS.out.2.2.2 y2 (List.mem_of_getElem? h_)
     have y2e:=hideIt h_
     clear h_
     go_wp2_with fail
     refine wp_region_held_drew (S:=(fun w'=>Hid (DrawSt w0 u2 b (.slice (some ⟨g,0,none⟩) ys.length c) ys w')∧w'.cell? ⟨g,jy1,none⟩=some (.int .i64 y1))) (by kernel_rfl) ?_ (fun hh0=>?_)
     ·(try dsimp only);refine DrawSt.held ?_ y1e.out;(repeat (first|exact DS.out|refine DrawSt.drew ?_|refine DrawSt.drewN ?_ _))
     refine regTk 0 hh0 ?_
     refine regTk 1 hh0 ?_
     refine regTk 2 hh0 ?_
     refine regTk 3 hh0 ?_
     refine regTk 4 hh0 ?_
     refine regTk 5 hh0 ?_
     refine regTk 6 hh0 ?_
     refine regCall 7 (fun K hK=>?_)
     go_simp
     refine (l01Next_any (w0:=w0) _ (by repeat (first|exact DS.out|refine DrawSt.drew ?_|refine DrawSt.drewN ?_ _):DrawSt w0 u2 b (.slice (some ⟨g,0,none⟩) ys.length c) ys _).2.1).mono ?_
     rintro e u5 ⟨r2,rfl,r2a,r2b,h_,c_⟩
     have GG:=hideIt (DrawSt.next (show DrawSt w0 u2 b (.slice (some ⟨g,0,none⟩) ys.length c) ys _ by repeat (first|exact DS.out|refine DrawSt.drew ?_|refine DrawSt.drewN ?_ _)) lt2.out c_ h_)
     clear h_ c_
     have r2c:=r2b (by omega)
     clear r2b
     (try go_wp2_with fail)
     refine hK.out _ _ ?_ (fun hh1=>?_)
     ·(try dsimp only);refine DrawSt.held ?_ y1e.out;(repeat (first|exact GG.out|refine DrawSt.drew ?_|refine DrawSt.drewN ?_ _))
     clear hK K hh0
     try simp only [Act.put,List.setIfInBounds_toArray,List.set_cons_zero,List.set_cons_succ]
     refine regTk 8 hh1 ?_
     obtain ⟨m1,h_⟩:∃m,m=max (base+r1) (y1+r2):=⟨_,rfl⟩
     have m1b:-1000≤m1∧m1≤1000+20 * ((ys.length:Int)+1):=by omega
     have m1e:=hideIt h_
     clear h_
     refine regTake 9 (v:=.int .i64 m1) (fun w hw=>?_) hh1 ?_
     ·(try dsimp only at hw)
      go_simp
      rw [m1e.out,Go.IntWalk.i64_in _ (by omega)]
      all_goals (split<;>omega)
     try simp only [Act.put,List.setIfInBounds_toArray,List.set_cons_zero,List.set_cons_succ]
     refine regTk 10 hh1 ?_
     refine wpAnyH_done (by kernel_rfl) ?_ _
     replace DS:=hh1.1
     try clear GG
     clear hh1
     go_wp2_with fail
     refine wp_region_held_drew (S:=(fun w'=>Hid (DrawSt w0 u2 b (.slice (some ⟨g,0,none⟩) ys.length c) ys w')∧w'.cell? ⟨g,jy2,none⟩=some (.int .i64 y2))) (by kernel_rfl) ?_ (fun hh0=>?_)
     ·(try dsimp only);refine DrawSt.held ?_ y2e.out;(repeat (first|exact DS.out|refine DrawSt.drew ?_|refine DrawSt.drewN ?_ _))
     refine regTk 0 hh0 ?_
     refine regTk 1 hh0 ?_
     refine regTk 2 hh0 ?_
     refine regTk 3 hh0 ?_
     refine regTk 4 hh0 ?_
     refine regTk 5 hh0 ?_
     refine regTk 6 hh0 ?_
     refine regTk 7 hh0 ?_
     refine regCall 8 (fun K hK=>?_)
     go_simp
     refine (l01Next_any (w0:=w0) _ (by repeat (first|exact DS.out|refine DrawSt.drew ?_|refine DrawSt.drewN ?_ _):DrawSt w0 u2 b (.slice (some ⟨g,0,none⟩) ys.length c) ys _).2.1).mono ?_
     rintro e u6 ⟨r3,rfl,r3a,r3b,h_,c_⟩
     have GG:=hideIt (DrawSt.next (show DrawSt w0 u2 b (.slice (some ⟨g,0,none⟩) ys.length c) ys _ by repeat (first|exact DS.out|refine DrawSt.drew ?_|refine DrawSt.drewN ?_ _)) lt2.out c_ h_)
     clear h_ c_
     have r3c:=r3b (by omega)
     clear r3b
     (try go_wp2_with fail)
     refine hK.out _ _ ?_ (fun hh1=>?_)
     ·(try dsimp only);refine DrawSt.held ?_ y2e.out;(repeat (first|exact GG.out|refine DrawSt.drew ?_|refine DrawSt.drewN ?_ _))
     clear hK K hh0
     try simp only [Act.put,List.setIfInBounds_toArray,List.set_cons_zero,List.set_cons_succ]
     refine regTk 9 hh1 ?_
     obtain ⟨m2,h_⟩:∃m,m=max (m1) (y2+r3):=⟨_,rfl⟩
     have m2b:-1000≤m2∧m2≤1000+20 * ((ys.length:Int)+1):=by omega
     have m2e:=hideIt h_
     clear h_
     refine regTake 10 (v:=.int .i64 m2) (fun w hw=>?_) hh1 ?_
     ·(try dsimp only at hw)
      go_simp
      rw [m2e.out,Go.IntWalk.i64_in _ (by omega)]
      all_goals (split<;>omega)
     try simp only [Act.put,List.setIfInBounds_toArray,List.set_cons_zero,List.set_cons_succ]
     refine regTk 11 hh1 ?_
     refine wpAnyH_done (by kernel_rfl) ?_ _
     replace DS:=hh1.1
     try clear GG
     clear hh1
     have vb1:-1000≤m2∧m2≤1000+20 * ((ys.length:Int)+1):=by omega
     have own1:=hideIt (DS.out.1.alloc (.cells #[.int .i64 (m2)] 2))
     have D1:=hideIt (DS.out.2.1.grows ((Grows.refl _).alloc (.cells #[.int .i64 (m2)] 2)))
     have D2:=hideIt (DS.out.2.2.1.alloc (.cells #[.int .i64 (m2)] 2))
     have D3:=hideIt DS.out.2.2.2
     have nlt:Hid (∀q,(Value.ownBlock (.slice (some ⟨g,0,none⟩) ys.length c))=some q→u2.heap.size≤q∧q<u6.heap.size):=hideIt DS.out.1.lt
     clear DS
     go_wp2_with (at_builtin;refine wpList_append_own_at _ rfl _ _ 39 rfl (u2.heap.size) 2 i0 (.int .i64 0) 1 8 Tryz.underlying39 hi hz0 hz1 hz2 rfl (by decide) (.slice (some ⟨g,0,none⟩) ys.length c) ys.length (ys.map (Value.int .i64)) rfl own1.out ⟨u6.heap.size,0,none⟩ 1 1 [.int .i64 (m2)] rfl ?c1 ?c2 ?c3 ?c4 ?c5 ?c6 ?_)
     case c1=>simp
     case c2 =>
      intro j u hj
      match j,hj with
      | 0,hj=>simp at hj;subst hj;simp [Addr.add]
     case c3=>intro u hu;simp at hu;subst hu;rfl
     case c4=>unfold maxLen;omega
     case c5=>omega
     case c6=>exact D2.out.size
     intro v' w4 hown3 hgrow hnil hat
     have DS:Hid (DrawSt w0 u2 b v' (ys++[m2]) w4):=hideIt ⟨by rw [List.length_append,List.map_append];exact hown3,D1.out.grown hgrow (fun q e=>Nat.lt_of_lt_of_le lt2.out (nlt.out q e).1),D2.out.grown hgrow (fun q e=>.inr (nlt.out q e).1),fun x hx=>by
      rw [List.length_append,List.length_singleton,Int.natCast_add]
      rcases List.mem_append.1 hx with hx|hx
      ·have:=D3.out x hx;omega
      ·simp at hx;subst hx;omega⟩
     clear hown3 hgrow hnil hat own1 D1 D2 D3 nlt
     go_wp2
     go_roundw
     case rel=>exact ⟨_,ys++[m2],ys.length+1,rfl,by simp,by omega,by go_num,DS⟩
     case measure=>simp [intOf];omega
    ·have hnd:decide (xl.length≤ys.length)=false:=by simpa using hn
     obtain ⟨g,c,rfl,hg1,hg2,hc1,hc2,-⟩:=own_cells DS.out.1 (by omega)
     obtain ⟨jy1,h_⟩:∃j:Nat,j=ys.length - 1:=⟨_,rfl⟩
     have y1l:jy1<ys.length:=by omega
     have y1w:IntKind.i64.wrap ((ys.length:Int) - 1)=(jy1:Int):=by rw [Go.IntWalk.i64_in _ (by omega)];omega
     clear h_
     obtain ⟨y1,h_⟩:∃y1,ys[jy1]?=some y1:=⟨_,List.getElem?_eq_getElem y1l⟩
     have y1b:=DS.out.2.2.2 y1 (List.mem_of_getElem? h_)
     have y1e:=hideIt h_
     clear h_
     go_wp2_with fail
     refine wp_region_held_drew (S:=(fun w'=>Hid (DrawSt w0 u2 b (.slice (some ⟨g,0,none⟩) ys.length c) ys w')∧w'.cell? ⟨g,jy1,none⟩=some (.int .i64 y1))) (by kernel_rfl) ?_ (fun hh0=>?_)
     ·(try dsimp only);refine DrawSt.held ?_ y1e.out;(repeat (first|exact DS.out|refine DrawSt.drew ?_|refine DrawSt.drewN ?_ _))
     refine regTk 0 hh0 ?_
     refine regTk 1 hh0 ?_
     refine regTk 2 hh0 ?_
     refine regTk 3 hh0 ?_
     refine regTk 4 hh0 ?_
     refine regTk 5 hh0 ?_
     refine regTk 6 hh0 ?_
     refine regCall 7 (fun K hK=>?_)
     go_simp
     refine (l01Next_any (w0:=w0) _ (by repeat (first|exact DS.out|refine DrawSt.drew ?_|refine DrawSt.drewN ?_ _):DrawSt w0 u2 b (.slice (some ⟨g,0,none⟩) ys.length c) ys _).2.1).mono ?_
     rintro e u5 ⟨r2,rfl,r2a,r2b,h_,c_⟩
     have GG:=hideIt (DrawSt.next (show DrawSt w0 u2 b (.slice (some ⟨g,0,none⟩) ys.length c) ys _ by repeat (first|exact DS.out|refine DrawSt.drew ?_|refine DrawSt.drewN ?_ _)) lt2.out c_ h_)
     clear h_ c_
     have r2c:=r2b (by omega)
     clear r2b
     (try go_wp2_with fail)
     refine hK.out _ _ ?_ (fun hh1=>?_)
     ·(try dsimp only);refine DrawSt.held ?_ y1e.out;(repeat (first|exact GG.out|refine DrawSt.drew ?_|refine DrawSt.drewN ?_ _))
     clear hK K hh0
     try simp only [Act.put,List.setIfInBounds_toArray,List.set_cons_zero,List.set_cons_succ]
     refine regTk 8 hh1 ?_
     obtain ⟨m1,h_⟩:∃m,m=max (base+r1) (y1+r2):=⟨_,rfl⟩
     have m1b:-1000≤m1∧m1≤1000+20 * ((ys.length:Int)+1):=by omega
     have m1e:=hideIt h_
     clear h_
     refine regTake 9 (v:=.int .i64 m1) (fun w hw=>?_) hh1 ?_
     ·(try dsimp only at hw)
      go_simp
      rw [m1e.out,Go.IntWalk.i64_in _ (by omega)]
      all_goals (split<;>omega)
     try simp only [Act.put,List.setIfInBounds_toArray,List.set_cons_zero,List.set_cons_succ]
     refine regTk 10 hh1 ?_
     refine wpAnyH_done (by kernel_rfl) ?_ _
     replace DS:=hh1.1
     try clear GG
     clear hh1
     have vb1:-1000≤m1∧m1≤1000+20 * ((ys.length:Int)+1):=by omega
     have own1:=hideIt (DS.out.1.alloc (.cells #[.int .i64 (m1)] 2))
     have D1:=hideIt (DS.out.2.1.grows ((Grows.refl _).alloc (.cells #[.int .i64 (m1)] 2)))
     have D2:=hideIt (DS.out.2.2.1.alloc (.cells #[.int .i64 (m1)] 2))
     have D3:=hideIt DS.out.2.2.2
     have nlt:Hid (∀q,(Value.ownBlock (.slice (some ⟨g,0,none⟩) ys.length c))=some q→u2.heap.size≤q∧q<u5.heap.size):=hideIt DS.out.1.lt
     clear DS
     go_wp2_with (at_builtin;refine wpList_append_own_at _ rfl _ _ 39 rfl (u2.heap.size) 2 i0 (.int .i64 0) 1 8 Tryz.underlying39 hi hz0 hz1 hz2 rfl (by decide) (.slice (some ⟨g,0,none⟩) ys.length c) ys.length (ys.map (Value.int .i64)) rfl own1.out ⟨u5.heap.size,0,none⟩ 1 1 [.int .i64 (m1)] rfl ?c1 ?c2 ?c3 ?c4 ?c5 ?c6 ?_)
     case c1=>simp
     case c2 =>
      intro j u hj
      match j,hj with
      | 0,hj=>simp at hj;subst hj;simp [Addr.add]
     case c3=>intro u hu;simp at hu;subst hu;rfl
     case c4=>unfold maxLen;omega
     case c5=>omega
     case c6=>exact D2.out.size
     intro v' w4 hown3 hgrow hnil hat
     have DS:Hid (DrawSt w0 u2 b v' (ys++[m1]) w4):=hideIt ⟨by rw [List.length_append,List.map_append];exact hown3,D1.out.grown hgrow (fun q e=>Nat.lt_of_lt_of_le lt2.out (nlt.out q e).1),D2.out.grown hgrow (fun q e=>.inr (nlt.out q e).1),fun x hx=>by
      rw [List.length_append,List.length_singleton,Int.natCast_add]
      rcases List.mem_append.1 hx with hx|hx
      ·have:=D3.out x hx;omega
      ·simp at hx;subst hx;omega⟩
     clear hown3 hgrow hnil hat own1 D1 D2 D3 nlt
     go_wp2
     go_roundw
     case rel=>exact ⟨_,ys++[m1],ys.length+1,rfl,by simp,by omega,by go_num,DS⟩
     case measure=>simp [intOf];omega
   ·have hmd:decide ((0:Int)<(ys.length:Int) % (xl.length:Int))=false:=by simpa using hm
    clear hm
    by_cases hn:xl.length≤ys.length
    ·have hnd:decide (xl.length≤ys.length)=true:=by simpa using hn
     obtain ⟨g,c,rfl,hg1,hg2,hc1,hc2,-⟩:=own_cells DS.out.1 (by omega)
     obtain ⟨jy2,h_⟩:∃j:Nat,j=ys.length - xl.length:=⟨_,rfl⟩
     have y2l:jy2<ys.length:=by omega
     have y2w:IntKind.i64.wrap ((ys.length:Int) - (xl.length:Int))=(jy2:Int):=by rw [Go.IntWalk.i64_in _ (by omega)];omega
     clear h_
     obtain ⟨y2,h_⟩:∃y2,ys[jy2]?=some y2:=⟨_,List.getElem?_eq_getElem y2l⟩
     have y2b:=DS.out.2.2.2 y2 (List.mem_of_getElem? h_)
     have y2e:=hideIt h_
     clear h_
     go_wp2_with fail
     refine wp_region_held_drew (S:=(fun w'=>Hid (DrawSt w0 u2 b (.slice (some ⟨g,0,none⟩) ys.length c) ys w')∧w'.cell? ⟨g,jy2,none⟩=some (.int .i64 y2))) (by kernel_rfl) ?_ (fun hh0=>?_)
     ·(try dsimp only);refine DrawSt.held ?_ y2e.out;(repeat (first|exact DS.out|refine DrawSt.drew ?_|refine DrawSt.drewN ?_ _))
     refine regTk 0 hh0 ?_
     refine regTk 1 hh0 ?_
     refine regTk 2 hh0 ?_
     refine regTk 3 hh0 ?_
     refine regTk 4 hh0 ?_
     refine regTk 5 hh0 ?_
     refine regTk 6 hh0 ?_
     refine regTk 7 hh0 ?_
     refine regCall 8 (fun K hK=>?_)
     go_simp
     refine (l01Next_any (w0:=w0) _ (by repeat (first|exact DS.out|refine DrawSt.drew ?_|refine DrawSt.drewN ?_ _):DrawSt w0 u2 b (.slice (some ⟨g,0,none⟩) ys.length c) ys _).2.1).mono ?_
     rintro e u6 ⟨r3,rfl,r3a,r3b,h_,c_⟩
     have GG:=hideIt (DrawSt.next (show DrawSt w0 u2 b (.slice (some ⟨g,0,none⟩) ys.length c) ys _ by repeat (first|exact DS.out|refine DrawSt.drew ?_|refine DrawSt.drewN ?_ _)) lt2.out c_ h_)
     clear h_ c_
     have r3c:=r3b (by omega)
     clear r3b
     (try go_wp2_with fail)
     refine hK.out _ _ ?_ (fun hh1=>?_)
     ·(try dsimp only);refine DrawSt.held ?_ y2e.out;(repeat (first|exact GG.out|refine DrawSt.drew ?_|refine DrawSt.drewN ?_ _))
     clear hK K hh0
     try simp only [Act.put,List.setIfInBounds_toArray,List.set_cons_zero,List.set_cons_succ]
     refine regTk 9 hh1 ?_
     obtain ⟨m2,h_⟩:∃m,m=max (base+r1) (y2+r3):=⟨_,rfl⟩
     have m2b:-1000≤m2∧m2≤1000+20 * ((ys.length:Int)+1):=by omega
     have m2e:=hideIt h_
     clear h_
     refine regTake 10 (v:=.int .i64 m2) (fun w hw=>?_) hh1 ?_
     ·(try dsimp only at hw)
      go_simp
      rw [m2e.out,Go.IntWalk.i64_in _ (by omega)]
      all_goals (split<;>omega)
     try simp only [Act.put,List.setIfInBounds_toArray,List.set_cons_zero,List.set_cons_succ]
     refine regTk 11 hh1 ?_
     refine wpAnyH_done (by kernel_rfl) ?_ _
     replace DS:=hh1.1
     try clear GG
     clear hh1
     have vb1:-1000≤m2∧m2≤1000+20 * ((ys.length:Int)+1):=by omega
     have own1:=hideIt (DS.out.1.alloc (.cells #[.int .i64 (m2)] 2))
     have D1:=hideIt (DS.out.2.1.grows ((Grows.refl _).alloc (.cells #[.int .i64 (m2)] 2)))
     have D2:=hideIt (DS.out.2.2.1.alloc (.cells #[.int .i64 (m2)] 2))
     have D3:=hideIt DS.out.2.2.2
     have nlt:Hid (∀q,(Value.ownBlock (.slice (some ⟨g,0,none⟩) ys.length c))=some q→u2.heap.size≤q∧q<u6.heap.size):=hideIt DS.out.1.lt
     clear DS
     go_wp2_with (at_builtin;refine wpList_append_own_at _ rfl _ _ 39 rfl (u2.heap.size) 2 i0 (.int .i64 0) 1 8 Tryz.underlying39 hi hz0 hz1 hz2 rfl (by decide) (.slice (some ⟨g,0,none⟩) ys.length c) ys.length (ys.map (Value.int .i64)) rfl own1.out ⟨u6.heap.size,0,none⟩ 1 1 [.int .i64 (m2)] rfl ?c1 ?c2 ?c3 ?c4 ?c5 ?c6 ?_)
     case c1=>simp
     case c2 =>
      intro j u hj
      match j,hj with
      | 0,hj=>simp at hj;subst hj;simp [Addr.add]
     case c3=>intro u hu;simp at hu;subst hu;rfl
     case c4=>unfold maxLen;omega
     case c5=>omega
     case c6=>exact D2.out.size
     intro v' w4 hown3 hgrow hnil hat
     have DS:Hid (DrawSt w0 u2 b v' (ys++[m2]) w4):=hideIt ⟨by rw [List.length_append,List.map_append];exact hown3,D1.out.grown hgrow (fun q e=>Nat.lt_of_lt_of_le lt2.out (nlt.out q e).1),D2.out.grown hgrow (fun q e=>.inr (nlt.out q e).1),fun x hx=>by
      rw [List.length_append,List.length_singleton,Int.natCast_add]
      rcases List.mem_append.1 hx with hx|hx
      ·have:=D3.out x hx;omega
      ·simp at hx;subst hx;omega⟩
     clear hown3 hgrow hnil hat own1 D1 D2 D3 nlt
     go_wp2
     go_roundw
     case rel=>exact ⟨_,ys++[m2],ys.length+1,rfl,by simp,by omega,by go_num,DS⟩
     case measure=>simp [intOf];omega
    ·have hnd:decide (xl.length≤ys.length)=false:=by simpa using hn
     obtain ⟨A3,c,rfl⟩:=own_slice DS.out.1
     have vb1:-1000≤base+r1∧base+r1≤1000+20 * ((ys.length:Int)+1):=by omega
     have own1:=hideIt (DS.out.1.alloc (.cells #[.int .i64 (base+r1)] 2))
     have D1:=hideIt (DS.out.2.1.grows ((Grows.refl _).alloc (.cells #[.int .i64 (base+r1)] 2)))
     have D2:=hideIt (DS.out.2.2.1.alloc (.cells #[.int .i64 (base+r1)] 2))
     have D3:=hideIt DS.out.2.2.2
     have nlt:Hid (∀q,(Value.ownBlock (.slice A3 ys.length c))=some q→u2.heap.size≤q∧q<u4.heap.size):=hideIt DS.out.1.lt
     clear DS
     go_wp2_with (at_builtin;refine wpList_append_own_at _ rfl _ _ 39 rfl (u2.heap.size) 2 i0 (.int .i64 0) 1 8 Tryz.underlying39 hi hz0 hz1 hz2 rfl (by decide) (.slice A3 ys.length c) ys.length (ys.map (Value.int .i64)) rfl own1.out ⟨u4.heap.size,0,none⟩ 1 1 [.int .i64 (base+r1)] rfl ?c1 ?c2 ?c3 ?c4 ?c5 ?c6 ?_)
     case c1=>simp
     case c2 =>
      intro j u hj
      match j,hj with
      | 0,hj=>simp at hj;subst hj;simp [Addr.add]
     case c3=>intro u hu;simp at hu;subst hu;rfl
     case c4=>unfold maxLen;omega
     case c5=>omega
     case c6=>exact D2.out.size
     intro v' w4 hown3 hgrow hnil hat
     have DS:Hid (DrawSt w0 u2 b v' (ys++[base+r1]) w4):=hideIt ⟨by rw [List.length_append,List.map_append];exact hown3,D1.out.grown hgrow (fun q e=>Nat.lt_of_lt_of_le lt2.out (nlt.out q e).1),D2.out.grown hgrow (fun q e=>.inr (nlt.out q e).1),fun x hx=>by
      rw [List.length_append,List.length_singleton,Int.natCast_add]
      rcases List.mem_append.1 hx with hx|hx
      ·have:=D3.out x hx;omega
      ·simp at hx;subst hx;omega⟩
     clear hown3 hgrow hnil hat own1 D1 D2 D3 nlt
     go_wp2
     go_roundw
     case rel=>exact ⟨_,ys++[base+r1],ys.length+1,rfl,by simp,by omega,by go_num,DS⟩
     case measure=>simp [intOf];omega
  ·have hkN:ys.length=N:=by omega
   have hkd:¬((ys.length:Int)<(xs.length:Int) * (xl.length:Int)):=by rw [←ml,←hN];omega
   have HKN:=hideIt hkN
   clear hkN
   obtain ⟨A3,c3,b3,rfl,o3,w3⟩:=own_oints DS.out.1
   have O3:=hideIt o3
   have W3:=hideIt w3
   have EB:=hideIt DS.out.2.2.2
   replace R:=hideIt (R.out.chg DS.out.2.2.1 NR.out)
   replace O1:=hideIt (O1.out.chg DS.out.2.2.1 (fun g hg=>by have:=W1.out.2 g hg;have:=hlt.out;simp;omega))
   replace O2:=hideIt (O2.out.chg DS.out.2.2.1 (fun g hg=>by have:=W2.out.2 g hg;have:=lt2.out;have:=S1.out;have:=hlt.out;simp;omega))
   replace HC:=hideIt (HC.out.trans DS.out.2.2.1)
   replace HS:=hideIt DS.out.2.1
   replace OR:=hideIt (ownsRow_chg OR.out DS.out.2.2.1 (fun g hg=>by have:=hlt.out;simp at hg;omega))
   have S3:Hid (u2.heap.size≤wr.heap.size):=hideIt DS.out.2.2.1.size
   clear o3 w3 DS
   have k0:=R.out.cell 0
   have k1:=R.out.cell 1
   have k2:=R.out.cell 2
   have fR:=R.out.frozen
   have lR:=R.out.lt
   simp at k0 k1 k2
   go_wp2
   refine bodyPost_ret (by simp [*,results,Tryz.results120,go_sem];try rfl) rfl ?_
   refine ⟨_,_,_,rfl,⟨xs,xl,ys⟩,b1++b2++b3,?_⟩
   have key:∀w9,Chg [w.heap.size] wr w9→wr.heap.size=w9.heap.size→Chg [b] w w9→OTable w9 [.slice A1 xs.length c1,.slice A2 xl.length c2,.slice A3 ys.length c3] ⟨xs,xl,ys⟩ (b1++b2++b3)∧Own w.heap.size w9.heap.size (b1++b2++b3)∧bndT ⟨xs,xl,ys⟩∧SrcAt w0 w9 b∧Chg [b] w w9∧w9.ownsRow (w.heap.size+1) 2 1 (.slice A2 xl.length c2) xl.length (xl.map (Value.int .i64)):=fun w9 c9 e9 h9=>by
    have q1:=S1.out
    have q2:=S2.out
    have q3:=S3.out
    refine ⟨⟨_,_,_,b1,b2,b3,rfl,O1.out.chg c9 (fun g hg=>by have:=W1.out.2 g hg;simp;omega),O2.out.chg c9 (fun g hg=>by have:=W2.out.2 g hg;simp;omega),O3.out.chg c9 (fun g hg=>by have:=W3.out.2 g hg;simp;omega),rfl⟩,?_,?_,HS.out.chg c9 (by have:=hlt.out;simp;omega) (fun g hg=>by simp at hg;subst hg;have:=HS.out.ge;have:=hlt.out;have:=HG.out;omega),h9,ownsRow_chg OR.out c9 (fun g hg=>by simp at hg;omega)⟩
    ·exact ((W1.out.append W2.out (by omega) q2).append W3.out (by omega) q3).mono (by omega) (by omega)
    ·exact ⟨⟨n1,n2⟩,⟨m1,m2⟩,by rw [←hN];exact HKN.out,B1.out,B2.out,fun x hx=>by have:=EB.out x hx;omega⟩
   refine key _ ?_ ?_ ?_
   ·repeat (first|exact Chg.refl _ _|refine Chg.setCell ?_ (by simp) _)
   ·simp [World.setCell]
   ·repeat (first|exact HC.out|refine Chg.setNew ?_ (by simp) _)
end Go.Proofs.YtlnpefiipdkafaaGreatDoor
/-
  Tables read off blocks: small facts.
-/
namespace Go.Proofs.YtlnpefiipdkafaaGreatDoor
open Go.RowKit
/-- integers that are read stay, though a block turns that holds none -/
theorem RInts.off {w w':World} {v:Value} {xs:List Int} {g:Nat} (h:RInts w v xs) (c:Chg [g] w w') (hg:∀o x,w.cell? ⟨g,o,none⟩≠some (.int .i64 x)):RInts w' v xs:=by
 obtain ⟨A,n,e,h1,h2,h3⟩:=h
 refine ⟨A,n,e,h1,h2,?_⟩
 rcases h3 with h3|⟨b,off,hA,h4⟩
 ·exact .inl h3
 ·refine .inr ⟨b,off,hA,fun i x hx=>?_⟩
  obtain ⟨cs,hl,hc,hr⟩:=h4 i x hx
  refine ⟨cs,hl,fun j u hu=>?_,hr⟩
  have k:=hc j u hu
  refine c.cell k (fun hm=>?_)
  simp at hm
  have hr':cs=[.int .i64 x]:=hr
  subst hr'
  match j,hu with
  | 0,hu =>
   simp at hu
   subst hu
   rw [hm] at k
   exact hg _ _ k
/-- a slice without its first element -/
theorem OInts.tail {w:World} {g c n:Nat} {xs:List Int} (h:OInts w (.slice (some ⟨g,0,none⟩) n c) xs [g]) (hn:1≤xs.length) (e:n=xs.length):RInts w (.slice (some ⟨g,1,none⟩) (n - 1) (c - 1)) xs.tail:=by
 subst e
 obtain ⟨g',c',cs,e,eb,h1,h2,hb,h3,h6⟩:=h.row hn
 injection eb with eb
 subst eb
 injection e with e1 e2 e3
 subst e3
 refine ⟨_,_,by rw [List.length_tail],by rw [List.length_tail];omega,by omega,.inr ⟨g,1,rfl,fun i x hx=>⟨[.int .i64 x],rfl,fun j u hu=>?_,rfl⟩⟩⟩
 match j,hu with
 | 0,hu =>
  simp at hu
  subst hu
  rw [hb.cell]
  rw [List.getElem?_tail] at hx
  simpa [Nat.add_comm] using h6 _ _ hx
theorem table_rows {w:World} {a1 a2 a3:Value} {S L Y:List Int} {bs:List Nat} {lo hi:Nat} (h:OTable w [a1,a2,a3] ⟨S,L,Y⟩ bs) (ho:Own lo hi bs) (h1:1≤S.length) (h2:1≤L.length) (h3:1≤Y.length) :
  ∃g1 c1 g2 c2 g3 c3:Nat,a1=.slice (some ⟨g1,0,none⟩) S.length c1∧a2=.slice (some ⟨g2,0,none⟩) L.length c2∧a3=.slice (some ⟨g3,0,none⟩) Y.length c3∧OInts w a1 S [g1]∧OInts w a2 L [g2]∧OInts w a3 Y [g3] ∧
   (lo≤g1∧g1<hi)∧(lo≤g2∧g2<hi)∧(lo≤g3∧g3<hi)∧g1≠g2∧g1≠g3∧g2≠g3∧(S.length≤c1∧L.length≤c2∧Y.length≤c3)∧(c1≤maxLen∧c2≤maxLen∧c3≤maxLen):=by
 obtain ⟨x,y,z,b1,b2,b3,e,o1,o2,o3,rfl⟩:=h
 injection e with e1 e
 injection e with e2 e
 injection e with e3 e
 subst e1 e2 e3
 obtain ⟨g1,c1,rfl,rfl,l1,m1,-,-⟩:=o1.one h1
 obtain ⟨g2,c2,rfl,rfl,l2,m2,-,-⟩:=o2.one h2
 obtain ⟨g3,c3,rfl,rfl,l3,m3,-,-⟩:=o3.one h3
 have hn:=ho.1
 simp at hn
 exact ⟨g1,c1,g2,c2,g3,c3,rfl,rfl,rfl,o1,o2,o3,ho.2 g1 (by simp),ho.2 g2 (by simp),ho.2 g3 (by simp),hn.1.1,hn.1.2,hn.2,⟨l1,l2,l3⟩,⟨m1,m2,m3⟩⟩

theorem ints4_at {w:World} {g:Nat} {t:TypeId} {z0 z1 z2 z3:Int} (h:Blk w g t #[.int .i64 z0,.int .i64 z1,.int .i64 z2,.int .i64 z3]) {q:Nat} (hq:q<4):∃z:Int,w.cell? ⟨g,q,none⟩=some (.int .i64 z)∧(z=z0∨z=z1∨z=z2∨z=z3):=ints4 h hq
theorem ints3_at {w:World} {g:Nat} {t:TypeId} {z0 z1 z2:Int} (h:Blk w g t #[.int .i64 z0,.int .i64 z1,.int .i64 z2]) {q:Nat} (hq:q<3):∃z:Int,w.cell? ⟨g,q,none⟩=some (.int .i64 z)∧(z=z0∨z=z1∨z=z2):=by
 rw [h.cell]
 rcases (by omega:q=0∨q=1∨q=2) with rfl|rfl|rfl<;>exact ⟨_,rfl,by simp⟩
theorem set_bnd {S:List Int} {i:Nat} {z:Int} (h:∀x∈S,0≤x∧x≤1000) (hz:-1≤z∧z≤100000):∀x∈S.set i z,-1≤x∧x≤100000:=fun x hx=>by
 rcases List.mem_or_eq_of_mem_set hx with h1|h1
 ·have:=h x h1;omega
 ·subst h1;exact hz
/-- the slice lies in a block from lo on -/
def OffB (lo:Nat) (v:Value):Prop:=∀g o n c,v=.slice (some ⟨g,o,none⟩) n c→lo≤g
theorem slice_off {lo g0 o0 n0 c0:Nat} (h:lo≤g0):OffB lo (.slice (some ⟨g0,o0,none⟩) n0 c0):=fun g o n c e=>by
 injection e with e1
 injection e1 with e1
 injection e1 with e1
 subst e1
 exact h
theorem own_off {lo:Nat} {v:Value} (h:∀k,v.ownBlock=some k→lo≤k):OffB lo v:=fun g o n c e=>by
 subst e
 exact h g rfl
theorem OffB.chg {w w':World} {lo b:Nat} {v:Value} {xs:List Int} (h:RInts w v xs) (hb:OffB lo v) (hl:b<lo) (c:Chg [b] w w'):RInts w' v xs:=by
 obtain ⟨A,n,e,h1,h2,h3⟩:=h
 refine ⟨A,n,e,h1,h2,?_⟩
 rcases h3 with h3|⟨g,off,hA,h4⟩
 ·exact .inl h3
 ·refine .inr ⟨g,off,hA,fun i x hx=>?_⟩
  obtain ⟨cs,hl,hc,hr⟩:=h4 i x hx
  refine ⟨cs,hl,fun j u hu=>c.cell (hc j u hu) ?_,hr⟩
  have:=hb g off _ n (by rw [e,hA])
  simp
  omega
theorem Chg.trans' {bs:List Nat} {a b c:World} {g:Nat} (h:Chg bs a b) (k:Chg [g] b c) (hg:a.heap.size≤g):Chg bs a c :=
 ⟨k.os.trans h.os,k.tape.trans h.tape,k.output.trans h.output,Nat.le_trans h.size k.size,fun q hq hn=>(k.block q (Nat.lt_of_lt_of_le hq h.size) (by simp;omega)).trans (h.block q hq hn)⟩
end Go.Proofs.YtlnpefiipdkafaaGreatDoor
