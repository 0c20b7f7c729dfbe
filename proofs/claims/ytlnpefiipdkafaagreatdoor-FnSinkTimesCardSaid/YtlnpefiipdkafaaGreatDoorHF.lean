/-
  Contract of the reference's IsCell.
-/
import Derived.Test.YtlnpefiipdkafaaGreatDoorGI
import Derived.Test.YtlnpefiipdkafaaGreatDoorHA
import Derived.Test.YtlnpefiipdkafaaGreatDoorHE
namespace Go.Proofs.YtlnpefiipdkafaaGreatDoor
open Go.RowKit
set_option maxRecDepth 100000 in
set_option maxHeartbeats 8000000 in
theorem sIsCell_any {v0 v1 v2 v3 v4 v5 v6:Value} {x:CellD} (w:World) (h:RCell w [v0,v1,v2,v3,v4,v5,v6] x) :
  Calls Tryz.prog 80 #[.agg #[v0,v1,v2,v3,v4,v5,v6]] w fun e w'=>e=.returned (.bool (cellB x))∧Grows w w':=by
 have h0:=h
 have hz:x.name.size≤maxLen:=by obtain ⟨_,_,_,_,h,_⟩:=h;exact h
 obtain ⟨rfl,rfl,hp,ha,ht,rfl,rfl,-⟩:=h.parts
 obtain ⟨name,kind,pins,arcs,truth,leak,energy⟩:=x
 have pl:=RList.len hp
 have al:=RList.len ha
 have tl:=RList.len ht
 obtain ⟨P,np,rfl⟩:∃(D:Option Addr) (nd:Nat),v2=.slice D pins.length nd:=by obtain ⟨D,c,e,-⟩:=RList.form hp;exact ⟨D,c,e⟩
 obtain ⟨A,na,rfl,-,-,hx⟩:=RList.form ha
 obtain ⟨T,nt,rfl,-,-,ht'⟩:=RList.form ht
 have S:=hideIt (Blk.new w 112 #[.string name,.int .i64 kind,.slice P pins.length np,.slice A arcs.length na,.slice T truth.length nt,.int .i64 leak,.int .i64 energy])
 have G:=hideIt ((Grows.refl w).alloc (.cells #[.string name,.int .i64 kind,.slice P pins.length np,.slice A arcs.length na,.slice T truth.length nt,.int .i64 leak,.int .i64 energy] 112))
 have HC:=hideIt (h0.keep G.out.keeps)
 have HX:=hideIt hx
 have HT:=hideIt ht'
 have NZ:=hideIt hz
 clear hx hp ha ht h h0 ht' hz
 simp only at *
 by_cases hP:PinsP pins
 rotate_left
 ·have NP:=hideIt (pB_false hP)
  have EP:=hideIt (show cellB (⟨name,kind,pins,arcs,truth,leak,energy⟩:CellD)=false from pB_false fun h=>hP h.pins)
  go_enter Tryz.func80,Tryz.ntmps80
  go_wp2_with fail
  refine (l03Pins_any _ HC.out).mono ?_
  rintro e w1 ⟨c,rfl,hc,g1⟩
  rw [NP.out]
  have G1:=hideIt (G.out.trans g1)
  have S1:=hideIt (S.out.grows g1)
  clear hc g1
  have kl:=S1.out.lt
  have k0:w1.cell? ⟨w.heap.size,0,none⟩=some (.string name):=S1.out.cell 0
  have k1:w1.cell? ⟨w.heap.size,1,none⟩=some (.int .i64 kind):=S1.out.cell 1
  have k2:w1.cell? ⟨w.heap.size,2,none⟩=some (.slice P pins.length np):=S1.out.cell 2
  have k3:w1.cell? ⟨w.heap.size,3,none⟩=some (.slice A arcs.length na):=S1.out.cell 3
  have k4:w1.cell? ⟨w.heap.size,4,none⟩=some (.slice T truth.length nt):=S1.out.cell 4
  have k5:w1.cell? ⟨w.heap.size,5,none⟩=some (.int .i64 leak):=S1.out.cell 5
  have k6:w1.cell? ⟨w.heap.size,6,none⟩=some (.int .i64 energy):=S1.out.cell 6
  go_wp2
  go_ret
  exact ⟨ret_bool EP.out.symm,G1.out⟩
 cases hN:nameB name
 ·have NM:=hideIt hN
  clear hN
  have EP:=hideIt (show cellB (⟨name,kind,pins,arcs,truth,leak,energy⟩:CellD)=false from pB_false fun h=>by have:=h.name;rw [NM.out] at this;cases this)
  go_enter Tryz.func80,Tryz.ntmps80
  go_wp2_with fail
  refine (l03Pins_any _ HC.out).mono ?_
  rintro e w1 ⟨c,rfl,hc,g1⟩
  rw [pB_true hP]
  have G1:=hideIt (G.out.trans g1)
  have S1:=hideIt (S.out.grows g1)
  have HC1:=hideIt (HC.out.keep g1.keeps)
  obtain rfl:=hc hP
  clear hc g1
  have kl:=S1.out.lt
  have k0:w1.cell? ⟨w.heap.size,0,none⟩=some (.string name):=S1.out.cell 0
  have k1:w1.cell? ⟨w.heap.size,1,none⟩=some (.int .i64 kind):=S1.out.cell 1
  have k2:w1.cell? ⟨w.heap.size,2,none⟩=some (.slice P pins.length np):=S1.out.cell 2
  have k3:w1.cell? ⟨w.heap.size,3,none⟩=some (.slice A arcs.length na):=S1.out.cell 3
  have k4:w1.cell? ⟨w.heap.size,4,none⟩=some (.slice T truth.length nt):=S1.out.cell 4
  have k5:w1.cell? ⟨w.heap.size,5,none⟩=some (.int .i64 leak):=S1.out.cell 5
  have k6:w1.cell? ⟨w.heap.size,6,none⟩=some (.int .i64 energy):=S1.out.cell 6
  go_wp2_with ((go_at_call 81;refine (l03Name_any _ _ NZ.out).mono ?_;rintro e w' ⟨rfl,hw⟩;rw [hw];clear hw w';rw [NM.out]))
  go_ret
  exact ⟨ret_bool EP.out.symm,G1.out⟩
 have NM:=hideIt hN
 clear hN
 by_cases hL:arcs.length≤8
 rotate_left
 ·skip
  have EP:=hideIt (show cellB (⟨name,kind,pins,arcs,truth,leak,energy⟩:CellD)=false from pB_false fun h=>hL h.few)
  go_enter Tryz.func80,Tryz.ntmps80
  go_wp2_with fail
  refine (l03Pins_any _ HC.out).mono ?_
  rintro e w1 ⟨c,rfl,hc,g1⟩
  rw [pB_true hP]
  have G1:=hideIt (G.out.trans g1)
  have S1:=hideIt (S.out.grows g1)
  have HC1:=hideIt (HC.out.keep g1.keeps)
  obtain rfl:=hc hP
  clear hc g1
  have kl:=S1.out.lt
  have k0:w1.cell? ⟨w.heap.size,0,none⟩=some (.string name):=S1.out.cell 0
  have k1:w1.cell? ⟨w.heap.size,1,none⟩=some (.int .i64 kind):=S1.out.cell 1
  have k2:w1.cell? ⟨w.heap.size,2,none⟩=some (.slice P pins.length np):=S1.out.cell 2
  have k3:w1.cell? ⟨w.heap.size,3,none⟩=some (.slice A arcs.length na):=S1.out.cell 3
  have k4:w1.cell? ⟨w.heap.size,4,none⟩=some (.slice T truth.length nt):=S1.out.cell 4
  have k5:w1.cell? ⟨w.heap.size,5,none⟩=some (.int .i64 leak):=S1.out.cell 5
  have k6:w1.cell? ⟨w.heap.size,6,none⟩=some (.int .i64 energy):=S1.out.cell 6
  go_wp2_with ((go_at_call 81;refine (l03Name_any _ _ NZ.out).mono ?_;rintro e w' ⟨rfl,hw⟩;rw [hw];clear hw w';rw [NM.out]))
  go_ret
  exact ⟨ret_bool EP.out.symm,G1.out⟩
 cases hk:inB leak 0 100000
 ·have LK:=hideIt hk
  clear hk
  have EP:=hideIt (show cellB (⟨name,kind,pins,arcs,truth,leak,energy⟩:CellD)=false from pB_false fun h=>by have:=h.leak;rw [LK.out] at this;cases this)
  go_enter Tryz.func80,Tryz.ntmps80
  go_wp2_with fail
  refine (l03Pins_any _ HC.out).mono ?_
  rintro e w1 ⟨c,rfl,hc,g1⟩
  rw [pB_true hP]
  have G1:=hideIt (G.out.trans g1)
  have S1:=hideIt (S.out.grows g1)
  have HC1:=hideIt (HC.out.keep g1.keeps)
  obtain rfl:=hc hP
  clear hc g1
  have kl:=S1.out.lt
  have k0:w1.cell? ⟨w.heap.size,0,none⟩=some (.string name):=S1.out.cell 0
  have k1:w1.cell? ⟨w.heap.size,1,none⟩=some (.int .i64 kind):=S1.out.cell 1
  have k2:w1.cell? ⟨w.heap.size,2,none⟩=some (.slice P pins.length np):=S1.out.cell 2
  have k3:w1.cell? ⟨w.heap.size,3,none⟩=some (.slice A arcs.length na):=S1.out.cell 3
  have k4:w1.cell? ⟨w.heap.size,4,none⟩=some (.slice T truth.length nt):=S1.out.cell 4
  have k5:w1.cell? ⟨w.heap.size,5,none⟩=some (.int .i64 leak):=S1.out.cell 5
  have k6:w1.cell? ⟨w.heap.size,6,none⟩=some (.int .i64 energy):=S1.out.cell 6
  go_wp2_with (first|(go_at_call 81;refine (l03Name_any _ _ NZ.out).mono ?_;rintro e w' ⟨rfl,hw⟩;rw [hw];clear hw w';rw [NM.out])|(go_at_call 73;refine (l01In_any _ _ _ _).mono ?_;rintro e w' ⟨rfl,rfl⟩;rw [LK.out]))
  go_ret
  exact ⟨ret_bool EP.out.symm,G1.out⟩
 have LK:=hideIt hk
 clear hk
 cases he:inB energy 0 100000
 ·have EN:=hideIt he
  clear he
  have EP:=hideIt (show cellB (⟨name,kind,pins,arcs,truth,leak,energy⟩:CellD)=false from pB_false fun h=>by have:=h.energy;rw [EN.out] at this;cases this)
  go_enter Tryz.func80,Tryz.ntmps80
  go_wp2_with fail
  refine (l03Pins_any _ HC.out).mono ?_
  rintro e w1 ⟨c,rfl,hc,g1⟩
  rw [pB_true hP]
  have G1:=hideIt (G.out.trans g1)
  have S1:=hideIt (S.out.grows g1)
  have HC1:=hideIt (HC.out.keep g1.keeps)
  obtain rfl:=hc hP
  clear hc g1
  have kl:=S1.out.lt
  have k0:w1.cell? ⟨w.heap.size,0,none⟩=some (.string name):=S1.out.cell 0
  have k1:w1.cell? ⟨w.heap.size,1,none⟩=some (.int .i64 kind):=S1.out.cell 1
  have k2:w1.cell? ⟨w.heap.size,2,none⟩=some (.slice P pins.length np):=S1.out.cell 2
  have k3:w1.cell? ⟨w.heap.size,3,none⟩=some (.slice A arcs.length na):=S1.out.cell 3
  have k4:w1.cell? ⟨w.heap.size,4,none⟩=some (.slice T truth.length nt):=S1.out.cell 4
  have k5:w1.cell? ⟨w.heap.size,5,none⟩=some (.int .i64 leak):=S1.out.cell 5
  have k6:w1.cell? ⟨w.heap.size,6,none⟩=some (.int .i64 energy):=S1.out.cell 6
  go_wp2_with (first|(go_at_call 81;refine (l03Name_any _ _ NZ.out).mono ?_;rintro e w' ⟨rfl,hw⟩;rw [hw];clear hw w';rw [NM.out])|(go_at_call 73;refine (l01In_any _ _ _ _).mono ?_;rintro e w' ⟨rfl,rfl⟩;first|rw [LK.out]|rw [EN.out]))
  go_ret
  exact ⟨ret_bool EP.out.symm,G1.out⟩
 have EN:=hideIt he
 clear he
 have HP:=hideIt hP
 go_enter Tryz.func80,Tryz.ntmps80
 go_wp2_with fail
 refine (l03Pins_any _ HC.out).mono ?_
 rintro e w1 ⟨c,rfl,hc,g1⟩
 rw [pB_true hP]
 have G1:=hideIt (G.out.trans g1)
 have S1:=hideIt (S.out.grows g1)
 have HC1:=hideIt (HC.out.keep g1.keeps)
 obtain rfl:=hc hP
 clear hc g1
 have kl:=S1.out.lt
 have k0:w1.cell? ⟨w.heap.size,0,none⟩=some (.string name):=S1.out.cell 0
 have k1:w1.cell? ⟨w.heap.size,1,none⟩=some (.int .i64 kind):=S1.out.cell 1
 have k2:w1.cell? ⟨w.heap.size,2,none⟩=some (.slice P pins.length np):=S1.out.cell 2
 have k3:w1.cell? ⟨w.heap.size,3,none⟩=some (.slice A arcs.length na):=S1.out.cell 3
 have k4:w1.cell? ⟨w.heap.size,4,none⟩=some (.slice T truth.length nt):=S1.out.cell 4
 have k5:w1.cell? ⟨w.heap.size,5,none⟩=some (.int .i64 leak):=S1.out.cell 5
 have k6:w1.cell? ⟨w.heap.size,6,none⟩=some (.int .i64 energy):=S1.out.cell 6
 go_wp2_with (first|(go_at_call 81;refine (l03Name_any _ _ NZ.out).mono ?_;rintro e w' ⟨rfl,hw⟩;rw [hw];clear hw w';rw [NM.out])|(go_at_call 73;refine (l01In_any _ _ _ _).mono ?_;rintro e w' ⟨rfl,rfl⟩;first|rw [LK.out]|rw [EN.out]))
 go_loopw [5,7] (fun i _ wr=>∃k:Nat,k≤arcs.length∧i=.int .i64 (k:Int)∧Hid (∀(j:Nat) (a:ArcD),j<k→arcs[j]?=some a→sArcB pins a=true∧∀(m:Nat) (b:ArcD),m<j→arcs[m]?=some b→¬sameArc b a)∧Grows w1 wr) (fun i _ _=>arcs.length - (intOf i).toNat)
 case atStart=>exact ⟨0,by omega,rfl,fun j a hj=>absurd hj (by omega),Grows.refl _⟩
 case round =>
  obtain ⟨k,hk,rfl,hco,hg⟩:=hrel
  have HG:=hideIt hg
  have S2:=hideIt (S1.out.grows hg)
  have HC2:=hideIt (HC1.out.keep hg.keeps)
  clear hg k0 k1 k2 k3 k4 k5 k6 kl hP
  have kl:=S2.out.lt
  have k0:wr.cell? ⟨w.heap.size,0,none⟩=some (.string name):=S2.out.cell 0
  have k1:wr.cell? ⟨w.heap.size,1,none⟩=some (.int .i64 kind):=S2.out.cell 1
  have k2:wr.cell? ⟨w.heap.size,2,none⟩=some (.slice P pins.length np):=S2.out.cell 2
  have k3:wr.cell? ⟨w.heap.size,3,none⟩=some (.slice A arcs.length na):=S2.out.cell 3
  have k4:wr.cell? ⟨w.heap.size,4,none⟩=some (.slice T truth.length nt):=S2.out.cell 4
  have k5:wr.cell? ⟨w.heap.size,5,none⟩=some (.int .i64 leak):=S2.out.cell 5
  have k6:wr.cell? ⟨w.heap.size,6,none⟩=some (.int .i64 energy):=S2.out.cell 6
  by_cases hlt:k<arcs.length
  ·obtain ⟨a,hp⟩:∃a,arcs[k]?=some a:=⟨_,List.getElem?_eq_getElem hlt⟩
   obtain ⟨b,off,rfl,cs,hl1,hcs,hr⟩:=HX.out k a hp
   obtain ⟨d0,d1,d2,d3,d4,d5,rfl⟩:=list6 hl1
   have hra:=hr
   obtain ⟨rfl,rfl,rfl,rfl,hdl,hsl⟩:=hr.parts
   obtain ⟨AD,nd,rfl⟩:∃(D:Option Addr) (nd:Nat),d4=.slice D a.delay.length nd:=by obtain ⟨D,c,e,-⟩:=RList.form hdl;exact ⟨D,c,e⟩
   obtain ⟨AE,ne,rfl⟩:∃(D:Option Addr) (nd:Nat),d5=.slice D a.slew.length nd:=by obtain ⟨D,c,e,-⟩:=RList.form hsl;exact ⟨D,c,e⟩
   clear hdl hsl
   have lift:=(G1.out.trans HG.out).keeps
   have HA:=hideIt ((hra.keep lift).keep (((Grows.refl wr).alloc (.cells #[.int .i64 a.kind,.int .i64 a.src,.int .i64 a.dst,.int .i64 a.sense,.slice AD a.delay.length nd,.slice AE a.slew.length ne] 134)).keeps))
   have HC3:=hideIt (HC2.out.keep (((Grows.refl wr).alloc (.cells #[.int .i64 a.kind,.int .i64 a.src,.int .i64 a.dst,.int .i64 a.sense,.slice AD a.delay.length nd,.slice AE a.slew.length ne] 134)).keeps))
   have q0:wr.cell? ⟨b,off+k * 6,none⟩=some (.int .i64 a.kind):=lift _ _ (by simpa using hcs 0 _ rfl)
   have q1:wr.cell? ⟨b,off+k * 6+1,none⟩=some (.int .i64 a.src):=lift _ _ (by simpa [Nat.add_assoc] using hcs 1 _ rfl)
   have q2:wr.cell? ⟨b,off+k * 6+2,none⟩=some (.int .i64 a.dst):=lift _ _ (by simpa [Nat.add_assoc] using hcs 2 _ rfl)
   have q3:wr.cell? ⟨b,off+k * 6+3,none⟩=some (.int .i64 a.sense):=lift _ _ (by simpa [Nat.add_assoc] using hcs 3 _ rfl)
   have q4:wr.cell? ⟨b,off+k * 6+4,none⟩=some (.slice AD a.delay.length nd):=lift _ _ (by simpa [Nat.add_assoc] using hcs 4 _ rfl)
   have q5:wr.cell? ⟨b,off+k * 6+5,none⟩=some (.slice AE a.slew.length ne):=lift _ _ (by simpa [Nat.add_assoc] using hcs 5 _ rfl)
   have P1:=hideIt hp
   clear hcs hl1 hr hra hp lift
   have BV:=hideIt (Blk.new wr 134 #[.int .i64 a.kind,.int .i64 a.src,.int .i64 a.dst,.int .i64 a.sense,.slice AD a.delay.length nd,.slice AE a.slew.length ne])
   have GW:=hideIt ((Grows.refl wr).alloc (.cells #[.int .i64 a.kind,.int .i64 a.src,.int .i64 a.dst,.int .i64 a.sense,.slice AD a.delay.length nd,.slice AE a.slew.length ne] 134))
   obtain ⟨wo,ewo⟩:∃wo:World,wo=wr:=⟨_,rfl⟩
   subst ewo
   have v0:(wo.alloc (.cells #[.int .i64 a.kind,.int .i64 a.src,.int .i64 a.dst,.int .i64 a.sense,.slice AD a.delay.length nd,.slice AE a.slew.length ne] 134)).cell? ⟨wo.heap.size,0,none⟩=some (.int .i64 a.kind):=BV.out.cell 0
   have v1:(wo.alloc (.cells #[.int .i64 a.kind,.int .i64 a.src,.int .i64 a.dst,.int .i64 a.sense,.slice AD a.delay.length nd,.slice AE a.slew.length ne] 134)).cell? ⟨wo.heap.size,1,none⟩=some (.int .i64 a.src):=BV.out.cell 1
   have v2:(wo.alloc (.cells #[.int .i64 a.kind,.int .i64 a.src,.int .i64 a.dst,.int .i64 a.sense,.slice AD a.delay.length nd,.slice AE a.slew.length ne] 134)).cell? ⟨wo.heap.size,2,none⟩=some (.int .i64 a.dst):=BV.out.cell 2
   have v3:(wo.alloc (.cells #[.int .i64 a.kind,.int .i64 a.src,.int .i64 a.dst,.int .i64 a.sense,.slice AD a.delay.length nd,.slice AE a.slew.length ne] 134)).cell? ⟨wo.heap.size,3,none⟩=some (.int .i64 a.sense):=BV.out.cell 3
   have v4:(wo.alloc (.cells #[.int .i64 a.kind,.int .i64 a.src,.int .i64 a.dst,.int .i64 a.sense,.slice AD a.delay.length nd,.slice AE a.slew.length ne] 134)).cell? ⟨wo.heap.size,4,none⟩=some (.slice AD a.delay.length nd):=BV.out.cell 4
   have v5:(wo.alloc (.cells #[.int .i64 a.kind,.int .i64 a.src,.int .i64 a.dst,.int .i64 a.sense,.slice AD a.delay.length nd,.slice AE a.slew.length ne] 134)).cell? ⟨wo.heap.size,5,none⟩=some (.slice AE a.slew.length ne):=BV.out.cell 5
   go_wp2_with fail
   refine (l03Arc_any _ HC3.out HA.out HP.out.1.1 HP.out.1.2).mono ?_
   rintro e w2 ⟨rfl,g2⟩
   clear v0 v1 v2 v3 v4 v5 q0 q1 q2 q3 q4 q5 k0 k1 k2 k3 k4 k5 k6 kl
   have G2:=hideIt (GW.out.trans g2)
   have BV2:=hideIt (BV.out.grows g2)
   have G3:=hideIt ((G1.out.trans HG.out).trans G2.out)
   have S3:=hideIt (S2.out.grows G2.out)
   clear g2
   cases hA:sArcB pins a
   ·have NO:Hid (¬CellP ⟨name,kind,pins,arcs,truth,leak,energy⟩):=hideIt fun h=>by have:=(h.arcs k a P1.out).1;rw [hA] at this;cases this
    have EP:=hideIt (pB_false NO.out)
    go_wp2
    go_ret
    exact ⟨ret_bool EP.out.symm,G3.out⟩
   have HA1:=hideIt hA
   clear hA
   go_wp2
   go_loopw [7] (fun i wr=>∃q:Nat,q≤k∧i=.int .i64 (q:Int)∧Hid (∀(j:Nat) (r:ArcD),j<q→arcs[j]?=some r→¬sameArc r a)∧Grows w2 wr) (fun i _=>k - (intOf i).toNat)
   case atStart=>exact ⟨0,by omega,rfl,fun j r hj=>absurd hj (by omega),Grows.refl _⟩
   case round =>
    obtain ⟨q,hq,rfl,hne,hg2⟩:=hrel
    have GA:=hideIt (G3.out.trans hg2)
    have GB:=hideIt (HG.out.trans (G2.out.trans hg2))
    have S4:=hideIt (S3.out.grows hg2)
    have bV:=BV2.out.grows hg2
    have v0:wr.cell? ⟨wo.heap.size,0,none⟩=some (.int .i64 a.kind):=bV.cell 0
    have v1:wr.cell? ⟨wo.heap.size,1,none⟩=some (.int .i64 a.src):=bV.cell 1
    have v2:wr.cell? ⟨wo.heap.size,2,none⟩=some (.int .i64 a.dst):=bV.cell 2
    have lV:=bV.lt
    have HG2:=hideIt hg2
    clear bV hg2
    have lS:=S4.out.lt
    have k3:wr.cell? ⟨w.heap.size,3,none⟩=some (.slice (some ⟨b,off,none⟩) arcs.length na):=S4.out.cell 3
    by_cases hlq:q<k
    ·obtain ⟨r,hr⟩:∃r,arcs[q]?=some r:=⟨_,List.getElem?_eq_getElem (by omega)⟩
     obtain ⟨b',off',e,cs,hl1,hcs,hrr⟩:=HX.out q r hr
     injection e with e
     injection e with e1 e2
     subst e1 e2
     obtain ⟨d0,d1,d2,d3,d6,d7,rfl⟩:=list6 hl1
     obtain ⟨rfl,rfl,rfl,rfl,-⟩:=hrr.parts
     have q0:wr.cell? ⟨b,off+q * 6,none⟩=some (.int .i64 r.kind):=GA.out.keeps _ _ (by simpa using hcs 0 _ rfl)
     have q1:wr.cell? ⟨b,off+q * 6+1,none⟩=some (.int .i64 r.src):=GA.out.keeps _ _ (by simpa [Nat.add_assoc] using hcs 1 _ rfl)
     have q2:wr.cell? ⟨b,off+q * 6+2,none⟩=some (.int .i64 r.dst):=GA.out.keeps _ _ (by simpa [Nat.add_assoc] using hcs 2 _ rfl)
     have Q1:=hideIt hr
     clear hcs hl1 hrr hr
     cases z0:(r.kind==a.kind)
     ·have NE:Hid (¬sameArc r a):=hideIt fun h=>by have:=beq_iff_eq.2 (h.1);rw [z0] at this;cases this
      go_wp2
      go_quiet (fail)
      go_wp2
      go_roundw
      case rel=>exact ⟨q+1,by omega,by go_num,fun j s hj hs=>by
       by_cases ej:j=q
       ·subst ej
        rw [Q1.out] at hs
        injection hs with hs
        rw [←hs]
        exact NE.out
       ·exact hne.out j s (by omega) hs,HG2.out.drewN _⟩
      case measure=>simp [intOf];omega
     cases z1:(r.src==a.src)
     ·have NE:Hid (¬sameArc r a):=hideIt fun h=>by have:=beq_iff_eq.2 (h.2.1);rw [z1] at this;cases this
      go_wp2
      go_quiet (fail)
      go_wp2
      go_roundw
      case rel=>exact ⟨q+1,by omega,by go_num,fun j s hj hs=>by
       by_cases ej:j=q
       ·subst ej
        rw [Q1.out] at hs
        injection hs with hs
        rw [←hs]
        exact NE.out
       ·exact hne.out j s (by omega) hs,HG2.out.drewN _⟩
      case measure=>simp [intOf];omega
     cases z2:(r.dst==a.dst)
     ·have NE:Hid (¬sameArc r a):=hideIt fun h=>by have:=beq_iff_eq.2 (h.2.2);rw [z2] at this;cases this
      go_wp2
      go_quiet (fail)
      go_wp2
      go_roundw
      case rel=>exact ⟨q+1,by omega,by go_num,fun j s hj hs=>by
       by_cases ej:j=q
       ·subst ej
        rw [Q1.out] at hs
        injection hs with hs
        rw [←hs]
        exact NE.out
       ·exact hne.out j s (by omega) hs,HG2.out.drewN _⟩
      case measure=>simp [intOf];omega
     have NO:Hid (¬CellP ⟨name,kind,pins,arcs,truth,leak,energy⟩):=hideIt fun h=>(h.arcs k _ P1.out).2 q _ hlq Q1.out ⟨eq_of_beq z0,eq_of_beq z1,eq_of_beq z2⟩
     have EP:=hideIt (pB_false NO.out)
     go_wp2
     go_quiet (fail)
     go_wp2
     go_ret
     exact ⟨ret_bool EP.out.symm,GA.out.drewN _⟩
    ·obtain rfl:q=k:=by omega
     go_wp2
     go_roundw
     case rel=>exact ⟨q+1,by omega,by go_num,fun j s hj hs=>by
      by_cases ej:j=q
      ·subst ej
       rw [P1.out] at hs
       injection hs with hs
       subst hs
       exact ⟨HA1.out,fun m r hm hr=>hne.out m r hm hr⟩
      ·exact hco.out j s (by omega) hs,GB.out⟩
     case measure=>simp [intOf];omega
  ·obtain rfl:k=arcs.length:=by omega
   have HAR:Hid (ArcsP pins arcs):=hideIt fun j a hj=>hco.out j a (List.getElem?_eq_some_iff.1 hj).1 hj
   clear hco
   go_wp2_with fail
   refine (l03Kinds_any _ HC2.out fun j a hj=>sArcB_kind (HAR.out j a hj).1).mono ?_
   rintro e w3 ⟨B,rfl,hb,g3⟩
   have G3:=hideIt ((G1.out.trans HG.out).trans g3)
   have S3:=hideIt (S2.out.grows g3)
   have BB:=hideIt hb
   clear hb g3 k0 k1 k2 k3 k4 k5 k6 kl
   have kl:=S3.out.lt
   have k1:w3.cell? ⟨w.heap.size,1,none⟩=some (.int .i64 kind):=S3.out.cell 1
   have k2:w3.cell? ⟨w.heap.size,2,none⟩=some (.slice P pins.length np):=S3.out.cell 2
   have k4:w3.cell? ⟨w.heap.size,4,none⟩=some (.slice T truth.length nt):=S3.out.cell 4
   obtain ⟨n1,e1,p1,z1⟩:=kN_has arcs 1
   obtain ⟨n2,e2,p2,z2⟩:=kN_has arcs 2
   obtain ⟨n3,e3,p3,z3⟩:=kN_has arcs 3
   have y1:w3.cell? ⟨B,1,none⟩=some (.int .i64 n1):=by rw [←e1];exact BB.out.cell 1
   have y2:w3.cell? ⟨B,2,none⟩=some (.int .i64 n2):=by rw [←e2];exact BB.out.cell 2
   have y3:w3.cell? ⟨B,3,none⟩=some (.int .i64 n3):=by rw [←e3];exact BB.out.cell 3
   have lB:=BB.out.lt
   clear e1 e2 e3
   have EB:Hid (cellB ⟨name,kind,pins,arcs,truth,leak,energy⟩=kindB ⟨name,kind,pins,arcs,truth,leak,energy⟩):=hideIt (by
    cases hkb:kindB ⟨name,kind,pins,arcs,truth,leak,energy⟩
    ·exact pB_false fun h=>by have:=h.ofKind;rw [hkb] at this;cases this
    ·exact pB_true ⟨HP.out,NM.out,HAR.out,hL,LK.out,EN.out,hkb⟩)
   generalize hcl:clkN pins pins.length=cl at *
   by_cases kk1:kind=1
   ·subst kk1
    clear p1 p2 p3 z1 z2 z3 y1 y2 y3
    go_wp2
    go_loop [9] (fun i=>∃j:Nat,j≤truth.length∧i=.int .i64 (j:Int)∧Hid (∀(m:Nat) (v:Int),m<j→truth[m]?=some v→inB v 0 1=true)) (fun i=>truth.length - (intOf i).toNat)
    case atStart=>exact ⟨0,by omega,rfl,fun m v hm=>absurd hm (by omega)⟩
    case round =>
     obtain ⟨j,hj,rfl,hin⟩:=hrel
     by_cases hjt:j<truth.length
     ·obtain ⟨v,hv⟩:∃v,truth[j]?=some v:=⟨_,List.getElem?_eq_getElem hjt⟩
      obtain ⟨b,off,rfl,cs,hl1,hcs,hr⟩:=HT.out j v hv
      unfold RI at hr
      subst hr
      have tj:w3.cell? ⟨b,off+j,none⟩=some (.int .i64 v):=G3.out.keeps _ _ (by simpa using hcs 0 _ rfl)
      have V1:=hideIt hv
      clear hcs hl1 hv
      cases hi:inB v 0 1
      ·have EP:Hid (cellB ⟨name,1,pins,arcs,truth,leak,energy⟩=false):=hideIt (by
        rw [EB.out]
        have:truth.all (fun v=>inB v 0 1)=false:=by
         rw [List.all_eq_false]
         exact ⟨v,List.mem_of_getElem? V1.out,by rw [hi];simp⟩
        unfold kindB
        simp [this])
       have HI:=hideIt hi
       clear hi
       go_wp2_with (go_at_call 73;refine (l01In_any _ _ _ _).mono ?_;rintro e w' ⟨rfl,rfl⟩;rw [HI.out])
       go_ret
       exact ⟨ret_bool EP.out.symm,G3.out⟩
      ·have HI:=hideIt hi
       clear hi
       go_wp2_with (go_at_call 73;refine (l01In_any _ _ _ _).mono ?_;rintro e w' ⟨rfl,rfl⟩;rw [HI.out])
       go_round
       case rel=>exact ⟨j+1,by omega,by go_num,fun m u hm hu=>by
        by_cases em:m=j
        ·subst em
         rw [V1.out] at hu
         injection hu with hu
         rw [←hu]
         exact HI.out
        ·exact hin.out m u (by omega) hu⟩
       case measure=>simp [intOf];omega
     ·obtain rfl:j=truth.length:=by omega
      have all1:truth.all (fun v=>inB v 0 1)=true:=by
       rw [List.all_eq_true]
       intro v hv
       obtain ⟨m,hm⟩:=List.getElem?_of_mem hv
       exact hin.out m v (List.getElem?_eq_some_iff.1 hm).1 hm
      clear hin
      have hp2:=HP.out.1.1
      have hp5:=HP.out.1.2
      by_cases c0:cl=0
      rotate_left
      ·have EP:Hid (false=cellB ⟨name,1,pins,arcs,truth,leak,energy⟩):=hideIt (by rw [EB.out];unfold kindB;simp [hcl,c0])
       have c0':((cl:Int)==0)=false:=by simp;omega
       clear hcl all1 c0
       go_wp2
       go_ret
       exact ⟨ret_bool EP.out,G3.out⟩
      subst c0
      have hpl:pins.length=2∨pins.length=3∨pins.length=4∨pins.length=5:=by omega
      rcases hpl with hpl|hpl|hpl|hpl
      ·have EP:Hid (decide ((truth.length:Int)=2)=cellB ⟨name,1,pins,arcs,truth,leak,energy⟩):=hideIt (by
        rw [EB.out]
        have e:decide ((truth.length:Int)=2)=decide (truth.length=2):=by rw [Bool.eq_iff_iff];simp;omega
        rw [e]
        unfold kindB
        simp only [hcl,all1]
        simp [hpl])
       clear hcl all1
       rw [hpl] at k2
       clear hpl hp2 hp5
       go_wp2
       go_ret
       exact ⟨ret_bool (by rw [←EP.out];first|rfl|simp),G3.out⟩
      ·have EP:Hid (decide ((truth.length:Int)=4)=cellB ⟨name,1,pins,arcs,truth,leak,energy⟩):=hideIt (by
        rw [EB.out]
        have e:decide ((truth.length:Int)=4)=decide (truth.length=4):=by rw [Bool.eq_iff_iff];simp;omega
        rw [e]
        unfold kindB
        simp only [hcl,all1]
        simp [hpl])
       clear hcl all1
       rw [hpl] at k2
       clear hpl hp2 hp5
       go_wp2
       go_ret
       exact ⟨ret_bool (by rw [←EP.out];first|rfl|simp),G3.out⟩
      ·have EP:Hid (decide ((truth.length:Int)=8)=cellB ⟨name,1,pins,arcs,truth,leak,energy⟩):=hideIt (by
        rw [EB.out]
        have e:decide ((truth.length:Int)=8)=decide (truth.length=8):=by rw [Bool.eq_iff_iff];simp;omega
        rw [e]
        unfold kindB
        simp only [hcl,all1]
        simp [hpl])
       clear hcl all1
       rw [hpl] at k2
       clear hpl hp2 hp5
       go_wp2
       go_ret
       exact ⟨ret_bool (by rw [←EP.out];first|rfl|simp),G3.out⟩
      ·have EP:Hid (decide ((truth.length:Int)=16)=cellB ⟨name,1,pins,arcs,truth,leak,energy⟩):=hideIt (by
        rw [EB.out]
        have e:decide ((truth.length:Int)=16)=decide (truth.length=16):=by rw [Bool.eq_iff_iff];simp;omega
        rw [e]
        unfold kindB
        simp only [hcl,all1]
        simp [hpl])
       clear hcl all1
       rw [hpl] at k2
       clear hpl hp2 hp5
       go_wp2
       go_ret
       exact ⟨ret_bool (by rw [←EP.out];first|rfl|simp),G3.out⟩
   have kl1:truth.length=0∨¬truth.length=0:=Classical.em _
   by_cases kk2:kind=2
   ·subst kk2
    by_cases c0:cl=1
    rotate_left
    ·have EP:Hid (false=cellB ⟨name,2,pins,arcs,truth,leak,energy⟩):=hideIt (by rw [EB.out];unfold kindB;simp [hcl,c0])
     have c0':((cl:Int)==1)=false:=by simp;omega
     clear hcl c0 p1 p2 p3 z1 z2 z3
     go_wp2
     go_quiet (fail)
     go_wp2
     go_ret
     exact ⟨ret_bool EP.out,G3.out.drewN _⟩
    subst c0
    cases h1:hasB arcs 1
    rotate_left
    ·skip
     have w1:=p1 h1
     have x1:(n1==0)=false:=by simp;omega
     have o1:decide (0<n1)=true:=decide_eq_true w1
     have EP:Hid (false=cellB ⟨name,2,pins,arcs,truth,leak,energy⟩):=hideIt (by rw [EB.out];unfold kindB;simp [hcl,h1])
     clear hcl p1 p2 p3 z1 z2 z3 h1
     go_wp2
     go_quiet (fail)
     go_wp2
     go_ret
     exact ⟨ret_bool EP.out,G3.out.drewN _⟩
    obtain rfl:=z1 h1
    cases h2:hasB arcs 2
    rotate_left
    ·skip
     have w2:=p2 h2
     have x2:(n2==0)=false:=by simp;omega
     have o2:decide (0<n2)=true:=decide_eq_true w2
     cases h3:hasB arcs 3
     rotate_left
     ·skip
      have w3:=p3 h3
      have x3:(n3==0)=false:=by simp;omega
      have o3:decide (0<n3)=true:=decide_eq_true w3
      have EP:Hid (false=cellB ⟨name,2,pins,arcs,truth,leak,energy⟩):=hideIt (by rw [EB.out];unfold kindB;simp [hcl,h1,h2,h3])
      clear hcl p1 p2 p3 z1 z2 z3 h1 h2 h3
      go_wp2
      go_quiet (fail)
      go_wp2
      go_ret
      exact ⟨ret_bool EP.out,G3.out.drewN _⟩
     obtain rfl:=z3 h3
     rcases kl1 with tz|tz
     rotate_left
     ·skip
      have tz':((truth.length:Int)==0)=false:=by rw [beq_eq_false_iff_ne];omega
      have EP:Hid (false=cellB ⟨name,2,pins,arcs,truth,leak,energy⟩):=hideIt (by rw [EB.out];unfold kindB;simp [hcl,tz])
      clear hcl p1 p2 p3 z1 z2 z3 h1 h2 h3 tz
      go_wp2
      go_quiet (fail)
      go_wp2
      go_ret
      exact ⟨ret_bool EP.out,G3.out.drewN _⟩
     have tz':((truth.length:Int)==0)=true:=by rw [beq_iff_eq];omega
     have EP:Hid (true=cellB ⟨name,2,pins,arcs,truth,leak,energy⟩):=hideIt (by rw [EB.out];unfold kindB;simp [hcl,tz,h1,h2,h3])
     clear hcl p1 p2 p3 z1 z2 z3 h1 h2 h3 tz
     go_wp2
     go_quiet (fail)
     go_wp2
     go_ret
     exact ⟨ret_bool EP.out,G3.out.drewN _⟩
    skip
    obtain rfl:=z2 h2
    cases h3:hasB arcs 3
    rotate_left
    ·skip
     have w3:=p3 h3
     have x3:(n3==0)=false:=by simp;omega
     have o3:decide (0<n3)=true:=decide_eq_true w3
     rcases kl1 with tz|tz
     rotate_left
     ·skip
      have tz':((truth.length:Int)==0)=false:=by rw [beq_eq_false_iff_ne];omega
      have EP:Hid (false=cellB ⟨name,2,pins,arcs,truth,leak,energy⟩):=hideIt (by rw [EB.out];unfold kindB;simp [hcl,tz])
      clear hcl p1 p2 p3 z1 z2 z3 h1 h2 h3 tz
      go_wp2
      go_quiet (fail)
      go_wp2
      go_ret
      exact ⟨ret_bool EP.out,G3.out.drewN _⟩
     have tz':((truth.length:Int)==0)=true:=by rw [beq_iff_eq];omega
     have EP:Hid (true=cellB ⟨name,2,pins,arcs,truth,leak,energy⟩):=hideIt (by rw [EB.out];unfold kindB;simp [hcl,tz,h1,h2,h3])
     clear hcl p1 p2 p3 z1 z2 z3 h1 h2 h3 tz
     go_wp2
     go_quiet (fail)
     go_wp2
     go_ret
     exact ⟨ret_bool EP.out,G3.out.drewN _⟩
    obtain rfl:=z3 h3
    have EP:Hid (false=cellB ⟨name,2,pins,arcs,truth,leak,energy⟩):=hideIt (by rw [EB.out];unfold kindB;simp [hcl,h1,h2,h3])
    clear hcl p1 p2 p3 z1 z2 z3 h1 h2 h3
    go_wp2
    go_quiet (fail)
    go_wp2
    go_ret
    exact ⟨ret_bool EP.out,G3.out.drewN _⟩
   by_cases kk3:kind=3
   ·subst kk3
    by_cases c0:cl=1
    rotate_left
    ·have EP:Hid (false=cellB ⟨name,3,pins,arcs,truth,leak,energy⟩):=hideIt (by rw [EB.out];unfold kindB;simp [hcl,c0])
     have c0':((cl:Int)==1)=false:=by simp;omega
     clear hcl c0 p1 p2 p3 z1 z2 z3
     go_wp2
     go_ret
     exact ⟨ret_bool EP.out,G3.out⟩
    subst c0
    cases h1:hasB arcs 1
    ·skip
     obtain rfl:=z1 h1
     have EP:Hid (false=cellB ⟨name,3,pins,arcs,truth,leak,energy⟩):=hideIt (by rw [EB.out];unfold kindB;simp [hcl,h1])
     clear hcl p1 p2 p3 z1 z2 z3 h1
     go_wp2
     go_ret
     exact ⟨ret_bool EP.out,G3.out⟩
    have w1:=p1 h1
    have x1:(n1==0)=false:=by simp;omega
    have o1:decide (0<n1)=true:=decide_eq_true w1
    cases h2:hasB arcs 2
    ·skip
     obtain rfl:=z2 h2
     have EP:Hid (false=cellB ⟨name,3,pins,arcs,truth,leak,energy⟩):=hideIt (by rw [EB.out];unfold kindB;simp [hcl,h2])
     clear hcl p1 p2 p3 z1 z2 z3 h1 h2
     go_wp2
     go_ret
     exact ⟨ret_bool EP.out,G3.out⟩
    have w2:=p2 h2
    have x2:(n2==0)=false:=by simp;omega
    have o2:decide (0<n2)=true:=decide_eq_true w2
    cases h3:hasB arcs 3
    rotate_left
    ·skip
     have w3:=p3 h3
     have x3:(n3==0)=false:=by simp;omega
     have o3:decide (0<n3)=true:=decide_eq_true w3
     have EP:Hid (false=cellB ⟨name,3,pins,arcs,truth,leak,energy⟩):=hideIt (by rw [EB.out];unfold kindB;simp [hcl,h3])
     clear hcl p1 p2 p3 z1 z2 z3 h1 h2 h3
     go_wp2
     go_ret
     exact ⟨ret_bool EP.out,G3.out⟩
    obtain rfl:=z3 h3
    rcases kl1 with tz|tz
    rotate_left
    ·skip
     have tz':((truth.length:Int)==0)=false:=by rw [beq_eq_false_iff_ne];omega
     have EP:Hid (false=cellB ⟨name,3,pins,arcs,truth,leak,energy⟩):=hideIt (by rw [EB.out];unfold kindB;simp [hcl,tz])
     clear hcl p1 p2 p3 z1 z2 z3 h1 h2 h3 tz
     go_wp2
     go_ret
     exact ⟨ret_bool EP.out,G3.out⟩
    have tz':((truth.length:Int)==0)=true:=by rw [beq_iff_eq];omega
    have EP:Hid (true=cellB ⟨name,3,pins,arcs,truth,leak,energy⟩):=hideIt (by rw [EB.out];unfold kindB;simp [hcl,tz,h1,h2,h3])
    clear hcl p1 p2 p3 z1 z2 z3 h1 h2 h3 tz
    go_wp2
    go_ret
    exact ⟨ret_bool EP.out,G3.out⟩
   have EP:Hid (false=cellB ⟨name,kind,pins,arcs,truth,leak,energy⟩):=hideIt (by rw [EB.out];unfold kindB;simp [kk1,kk2,kk3])
   clear hcl p1 p2 p3 z1 z2 z3 y1 y2 y3
   go_wp2
   go_ret
   exact ⟨ret_bool EP.out,G3.out⟩
end Go.Proofs.YtlnpefiipdkafaaGreatDoor
/-
  Contract of the reference's IsLibrary.
-/
namespace Go.Proofs.YtlnpefiipdkafaaGreatDoor
open Go.RowKit
set_option maxHeartbeats 4000000 in
theorem sIsLib_any {v:Value} {cs:List CellD} (w:World) (h:RCells w v cs) :
  Calls Tryz.prog 39 #[.agg #[v]] w fun e w'=>e=.returned (.bool (libB cs))∧Grows w w':=by
 have cl:=RList.len h
 obtain ⟨C,nc,rfl,-,-,hx⟩:=RList.form h
 have g0:=(Grows.refl w).alloc (.cells #[.slice C cs.length nc] 26)
 have S:=hideIt (Blk.new w 26 #[.slice C cs.length nc])
 have HX:=hideIt hx
 have G:=hideIt g0
 clear h hx g0
 go_enter Tryz.func39,Tryz.ntmps39
 go_wp2
 go_loopw [3,4] (fun i _ wr=>∃k:Nat,k≤cs.length∧i=.int .i64 (k:Int)∧Hid (∀(j:Nat) (x:CellD),j<k→cs[j]?=some x→CellP x∧∀(m:Nat) (y:CellD),m<j→cs[m]?=some y→¬y.name=x.name)∧Grows (w.alloc (.cells #[.slice C cs.length nc] 26)) wr) (fun i _ _=>cs.length - (intOf i).toNat)
 case atStart=>exact ⟨0,by omega,rfl,fun j a hj=>absurd hj (by omega),Grows.refl _⟩
 case round =>
  obtain ⟨k,hk,rfl,hco,hg⟩:=hrel
  have HG:=hideIt hg
  have GG:=hideIt (G.out.trans hg)
  have S2:=hideIt (S.out.grows hg)
  clear hg
  have kl:=S2.out.lt
  have k0:wr.cell? ⟨w.heap.size,0,none⟩=some (.slice C cs.length nc):=S2.out.cell 0
  by_cases hlt:k<cs.length
  ·obtain ⟨x,hp⟩:∃x,cs[k]?=some x:=⟨_,List.getElem?_eq_getElem hlt⟩
   obtain ⟨b,off,rfl,ds,hl1,hcs,hr⟩:=HX.out k x hp
   obtain ⟨d0,d1,d2,d3,d4,d5,d6,rfl⟩:=list7 hl1
   have HR:=hideIt (hr.keep GG.out.keeps)
   obtain ⟨rfl,rfl,-,-,-,rfl,rfl,-⟩:=hr.parts
   have lift:=GG.out.keeps
   have q0:wr.cell? ⟨b,off+k * 7,none⟩=some (.string x.name):=lift _ _ (by simpa [Nat.add_assoc] using hcs 0 _ rfl)
   have q1:wr.cell? ⟨b,off+k * 7+1,none⟩=some (.int .i64 x.kind):=lift _ _ (by simpa [Nat.add_assoc] using hcs 1 _ rfl)
   have q2:wr.cell? ⟨b,off+k * 7+2,none⟩=some (d2):=lift _ _ (by simpa [Nat.add_assoc] using hcs 2 _ rfl)
   have q3:wr.cell? ⟨b,off+k * 7+3,none⟩=some (d3):=lift _ _ (by simpa [Nat.add_assoc] using hcs 3 _ rfl)
   have q4:wr.cell? ⟨b,off+k * 7+4,none⟩=some (d4):=lift _ _ (by simpa [Nat.add_assoc] using hcs 4 _ rfl)
   have q5:wr.cell? ⟨b,off+k * 7+5,none⟩=some (.int .i64 x.leak):=lift _ _ (by simpa [Nat.add_assoc] using hcs 5 _ rfl)
   have q6:wr.cell? ⟨b,off+k * 7+6,none⟩=some (.int .i64 x.energy):=lift _ _ (by simpa [Nat.add_assoc] using hcs 6 _ rfl)
   have P1:=hideIt hp
   clear hcs hl1 hr hp lift
   go_wp2_with fail
   refine (sIsCell_any _ HR.out).mono ?_
   rintro e w2 ⟨rfl,g2⟩
   clear q0 q1 q2 q3 q4 q5 q6 k0 kl
   have HG2:=hideIt (HG.out.trans g2)
   have GG2:=hideIt (GG.out.trans g2)
   have S3:=hideIt (S2.out.grows g2)
   clear g2
   cases hc:cellB x
   ·have EP:=hideIt (show libB cs=false from pB_false fun h=>by have:=pB_true (h.1 k x P1.out);unfold cellB at hc;rw [this] at hc;cases hc)
    clear hc
    go_wp2
    go_ret
    exact ⟨ret_bool EP.out.symm,GG2.out⟩
   have HC:=hideIt (pB_iff.1 hc)
   clear hc
   obtain ⟨wo,ewo⟩:∃wo:World,wo=w2:=⟨_,rfl⟩
   subst ewo
   go_wp2
   go_loopw [4] (fun i wr=>∃q:Nat,q≤k∧i=.int .i64 (q:Int)∧Hid (∀(j:Nat) (r:CellD),j<q→cs[j]?=some r→¬r.name=x.name)∧Grows wo wr) (fun i _=>k - (intOf i).toNat)
   case atStart=>exact ⟨0,by omega,rfl,fun j r hj=>absurd hj (by omega),Grows.refl _⟩
   case round =>
    obtain ⟨q,hq,rfl,hne,hg2⟩:=hrel
    have HG3:=hideIt (HG2.out.trans hg2)
    have GG3:=hideIt (GG2.out.trans hg2)
    have S4:=hideIt (S3.out.grows hg2)
    have HGQ:=hideIt hg2
    clear hg2
    have kl:=S4.out.lt
    have k0:wr.cell? ⟨w.heap.size,0,none⟩=some (.slice (some ⟨b,off,none⟩) cs.length nc):=S4.out.cell 0
    by_cases hlq:q<k
    ·obtain ⟨r,hr⟩:∃r,cs[q]?=some r:=⟨_,List.getElem?_eq_getElem (by omega)⟩
     have kq:wr.cell? ⟨b,off+q * 7,none⟩=some (.string r.name):=by
      obtain ⟨b',off',e,ds,hl1,hcs,hrr⟩:=HX.out q r hr
      injection e with e
      injection e with e1 e2
      subst e1 e2
      obtain ⟨d0,d1,d2,d3,d4,d5,d6,rfl⟩:=list7 hl1
      obtain ⟨rfl,-⟩:=hrr.parts
      exact GG3.out.keeps _ _ (by simpa using hcs 0 _ rfl)
     have kk:wr.cell? ⟨b,off+k * 7,none⟩=some (.string x.name):=by
      obtain ⟨b',off',e,ds,hl1,hcs,hrr⟩:=HX.out k x P1.out
      injection e with e
      injection e with e1 e2
      subst e1 e2
      obtain ⟨d0,d1,d2,d3,d4,d5,d6,rfl⟩:=list7 hl1
      obtain ⟨rfl,-⟩:=hrr.parts
      exact GG3.out.keeps _ _ (by simpa using hcs 0 _ rfl)
     have Q1:=hideIt hr
     have kq2:q<cs.length:=by omega
     clear hr
     by_cases he:r.name=x.name
     ·have EP:=hideIt (show libB cs=false from pB_false fun h=>h.2.1 q k r x hlq Q1.out P1.out he)
      have he1:(r.name.toList==x.name.toList)=true:=by rw [he];simp
      clear he
      go_wp2
      (try (go_quiet (fail);go_wp2))
      go_ret
      exact ⟨ret_bool EP.out.symm,by first|exact GG3.out|exact GG3.out.drewN _⟩
     ·have he1:=strNe he
      have HE:=hideIt he
      clear he
      go_wp2
      (try (go_quiet (fail);go_wp2))
      go_roundw
      case rel=>exact ⟨q+1,by omega,by go_num,fun j s hj hs=>by
       by_cases ej:j=q
       ·subst ej
        rw [Q1.out] at hs
        injection hs with hs
        rw [←hs]
        exact HE.out
       ·exact hne.out j s (by omega) hs,by first|exact HGQ.out|exact HGQ.out.drewN _⟩
      case measure=>simp [intOf];omega
    ·obtain rfl:q=k:=by omega
     go_wp2
     go_roundw
     case rel=>exact ⟨q+1,by omega,by go_num,fun j s hj hs=>by
      by_cases ej:j=q
      ·subst ej
       rw [P1.out] at hs
       injection hs with hs
       subst hs
       exact ⟨HC.out,fun m r hm hr=>hne.out m r hm hr⟩
      ·exact hco.out j s (by omega) hs,HG3.out⟩
     case measure=>simp [intOf];omega
  ·obtain rfl:k=cs.length:=by omega
   have EP:=hideIt (show libB cs=decide ((cs.length:Int)≤8) by
    have e:decide ((cs.length:Int)≤8)=decide (cs.length≤8):=by rw [Bool.eq_iff_iff];simp only [decide_eq_true_eq];omega
    rw [e]
    unfold libB
    rw [Bool.eq_iff_iff,pB_iff,decide_eq_true_eq]
    exact ⟨fun h=>h.2.2,fun h=>⟨fun i x hi=>(hco.out i x (List.getElem?_eq_some_iff.1 hi).1 hi).1,fun i j x y hij hi hj=>(hco.out j y (List.getElem?_eq_some_iff.1 hj).1 hj).2 i x hij hi,h⟩⟩)
   clear hco
   go_wp2
   go_ret
   exact ⟨ret_bool EP.out.symm,GG.out⟩
end Go.Proofs.YtlnpefiipdkafaaGreatDoor
/-
  Contract of the program's IsLibrary.
-/
namespace Go.Proofs.YtlnpefiipdkafaaGreatDoor
open Go.RowKit
def cnV (cs:List CellD) (k:Nat):List Value:=((cs.take k).map (·.name)).map (.string ·)
theorem cnV_succ {cs:List CellD} {k:Nat} {x:CellD} (h:cs[k]?=some x):cnV cs (k+1)=cnV cs k++[.string x.name]:=by
 unfold cnV
 rw [List.take_add_one,h]
 simp
set_option maxHeartbeats 4000000 in
set_option maxRecDepth 10000 in
theorem iIsLib_any {v:Value} {cs:List CellD} (w:World) (h:RCells w v cs) (hs:SmCells cs) :
  Calls Tryz.prog 42 #[.agg #[v]] w fun e w'=>e=.returned (.bool (libB cs))∧Grows w w':=by
 obtain ⟨i0,hi,hz0,hz1,hz2⟩:=info_parts info_str
 have cl:=RList.len h
 have hsm:=hs.1
 unfold SmL at hsm
 obtain ⟨C,nc,rfl,-,-,hx⟩:=RList.form h
 have g0:=(Grows.refl w).alloc (.cells #[.slice C cs.length nc] 26)
 have S:=hideIt (Blk.new w 26 #[.slice C cs.length nc])
 have HX:=hideIt hx
 have HS:=hideIt hs
 have G:=hideIt g0
 have HN:=hideIt (fun (i:Nat) (x:CellD) (hi:cs[i]?=some x)=>(by obtain ⟨b,off,e,ds,hl1,hcs,hr⟩:=hx i x hi;obtain ⟨_,_,_,_,hz,_⟩:=hr;exact hz:x.name.size≤maxLen))
 clear h hx g0 hs
 go_enter Tryz.func42,Tryz.ntmps42
 go_wp2
 go_loopw [3,5,9] (fun s _ i wr=>∃(nv:Value) (k:Nat),nv=s∧k≤cs.length∧i=.int .i64 (k:Int)∧Hid (wr.ownsRow (w.heap.size+1) 9 1 nv k (cnV cs k))∧Hid (∀(j:Nat) (x:CellD),j<k→cs[j]?=some x→CellP x)∧Grows (w.alloc (.cells #[.slice C cs.length nc] 26)) wr) (fun _ _ i _=>cs.length - (intOf i).toNat)
 case atStart=>exact ⟨_,0,rfl,by omega,rfl,World.ownsRow_nil _ _ _ _,fun j p hj=>absurd hj (by omega),Grows.refl _⟩
 case round =>
  obtain ⟨nv,k,rfl,hk,rfl,hown,hco,hg⟩:=hrel
  have HG:=hideIt hg
  have GG:=hideIt (G.out.trans hg)
  have S2:=hideIt (S.out.grows hg)
  clear hg
  have kl:=S2.out.lt
  have k0:wr.cell? ⟨w.heap.size,0,none⟩=some (.slice C cs.length nc):=S2.out.cell 0
  by_cases hlt:k<cs.length
  ·obtain ⟨x,hp⟩:∃x,cs[k]?=some x:=⟨_,List.getElem?_eq_getElem hlt⟩
   obtain ⟨b,off,rfl,ds,hl1,hcs,hr⟩:=HX.out k x hp
   obtain ⟨d0,d1,d2,d3,d4,d5,d6,rfl⟩:=list7 hl1
   obtain ⟨rfl,rfl,h2,h3,h4,rfl,rfl,-⟩:=hr.parts
   obtain ⟨A2,m2,rfl⟩:∃(D:Option Addr) (nd:Nat),d2=.slice D x.pins.length nd:=by obtain ⟨D,c,e,-⟩:=RList.form h2;exact ⟨D,c,e⟩
   obtain ⟨A3,m3,rfl⟩:∃(D:Option Addr) (nd:Nat),d3=.slice D x.arcs.length nd:=by obtain ⟨D,c,e,-⟩:=RList.form h3;exact ⟨D,c,e⟩
   obtain ⟨A4,m4,rfl⟩:∃(D:Option Addr) (nd:Nat),d4=.slice D x.truth.length nd:=by obtain ⟨D,c,e,-⟩:=RList.form h4;exact ⟨D,c,e⟩
   have lift:=GG.out.keeps
   have HR:=hideIt ((hr.keep lift).keep ((Grows.refl wr).alloc (.cells #[.string x.name,.int .i64 x.kind,.slice A2 x.pins.length m2,.slice A3 x.arcs.length m3,.slice A4 x.truth.length m4,.int .i64 x.leak,.int .i64 x.energy] 112)).keeps)
   clear h2 h3 h4
   have q0:wr.cell? ⟨b,off+k * 7,none⟩=some (.string x.name):=lift _ _ (by simpa [Nat.add_assoc] using hcs 0 _ rfl)
   have q1:wr.cell? ⟨b,off+k * 7+1,none⟩=some (.int .i64 x.kind):=lift _ _ (by simpa [Nat.add_assoc] using hcs 1 _ rfl)
   have q2:wr.cell? ⟨b,off+k * 7+2,none⟩=some (.slice A2 x.pins.length m2):=lift _ _ (by simpa [Nat.add_assoc] using hcs 2 _ rfl)
   have q3:wr.cell? ⟨b,off+k * 7+3,none⟩=some (.slice A3 x.arcs.length m3):=lift _ _ (by simpa [Nat.add_assoc] using hcs 3 _ rfl)
   have q4:wr.cell? ⟨b,off+k * 7+4,none⟩=some (.slice A4 x.truth.length m4):=lift _ _ (by simpa [Nat.add_assoc] using hcs 4 _ rfl)
   have q5:wr.cell? ⟨b,off+k * 7+5,none⟩=some (.int .i64 x.leak):=lift _ _ (by simpa [Nat.add_assoc] using hcs 5 _ rfl)
   have q6:wr.cell? ⟨b,off+k * 7+6,none⟩=some (.int .i64 x.energy):=lift _ _ (by simpa [Nat.add_assoc] using hcs 6 _ rfl)
   have P1:=hideIt hp
   have SX:=hideIt (HS.out.2 x (List.mem_of_getElem? hp)).2.1.1
   clear hcs hl1 hr hp lift
   have BV:=hideIt (Blk.new wr 112 #[.string x.name,.int .i64 x.kind,.slice A2 x.pins.length m2,.slice A3 x.arcs.length m3,.slice A4 x.truth.length m4,.int .i64 x.leak,.int .i64 x.energy])
   have GW:=hideIt ((Grows.refl wr).alloc (.cells #[.string x.name,.int .i64 x.kind,.slice A2 x.pins.length m2,.slice A3 x.arcs.length m3,.slice A4 x.truth.length m4,.int .i64 x.leak,.int .i64 x.energy] 112))
   have own1:=hideIt (hown.out.alloc (.cells #[.string x.name,.int .i64 x.kind,.slice A2 x.pins.length m2,.slice A3 x.arcs.length m3,.slice A4 x.truth.length m4,.int .i64 x.leak,.int .i64 x.energy] 112))
   have nlt:Hid (∀q,nv.ownBlock=some q→w.heap.size+1≤q∧q<wr.heap.size):=hideIt hown.out.lt
   go_wp2_with fail
   refine (iIsCell_any _ HR.out SX.out).mono ?_
   rintro e w2 ⟨rfl,g2⟩
   clear q0 q1 q2 q3 q4 q5 q6 k0 kl
   have BV2:=hideIt (BV.out.grows g2)
   have GW2:=hideIt (GW.out.trans g2)
   have GG2:=hideIt (GG.out.trans GW2.out)
   have HG2:=hideIt (HG.out.trans GW2.out)
   have own2:=hideIt (ownsRow_grows own1.out g2)
   clear g2
   cases hc:cellB x
   ·have EP:=hideIt (show libB cs=false from pB_false fun h=>by have:=pB_true (h.1 k x P1.out);unfold cellB at hc;rw [this] at hc;cases hc)
    clear hc
    go_wp2
    go_ret
    exact ⟨ret_bool EP.out.symm,GG2.out⟩
   have HC:=hideIt (pB_iff.1 hc)
   clear hc
   have v0:w2.cell? ⟨wr.heap.size,0,none⟩=some (.string x.name):=BV2.out.cell 0
   have vl:=BV2.out.lt
   have own3:=hideIt (own2.out.alloc (.cells #[.string x.name] 9))
   have G3:=hideIt (HG2.out.alloc (.cells #[.string x.name] 9))
   go_wp2_with (at_builtin;refine wpList_append_own _ rfl _ _ 28 rfl (w.heap.size+1) 9 i0 (.string .empty) 1 16 Tryz.underlying28 hi hz0 hz1 hz2 rfl (by decide) nv k (cnV cs k) rfl own3.out ⟨w2.heap.size,0,none⟩ 1 1 [.string x.name] rfl ?c1 ?c2 ?c3 ?c4 ?c5 ?c6 ?_)
   case c1=>simp
   case c2 =>
    intro j u hj
    match j,hj with
    | 0,hj=>simp at hj;subst hj;simp [Addr.add]
   case c3=>intro u hu;simp at hu;subst hu;rfl
   case c4=>unfold maxLen;omega
   case c5=>omega
   case c6=>have:=G3.out.size;simpa using this
   intro v' w1 hown2 hgrow hnil
   have G4:=hideIt (G3.out.grown hgrow (fun q e=>by have:=(nlt.out q e).1;simpa using this))
   have OW:=hideIt (show w1.ownsRow (w.heap.size+1) 9 1 v' (k+1) (cnV cs (k+1)) by rw [cnV_succ P1.out];exact hown2)
   clear hown2 hgrow hnil v0 vl own3 own2 own1
   go_wp2
   go_roundw
   case rel=>exact ⟨_,k+1,rfl,by omega,by go_num,OW.out,fun j s hj hs=>by
    by_cases ej:j=k
    ·subst ej
     rw [P1.out] at hs
     injection hs with hs
     subst hs
     exact HC.out
    ·exact hco.out j s (by omega) hs,G4.out⟩
   case measure=>simp [intOf];omega
  ·obtain rfl:k=cs.length:=by omega
   have RS:=hideIt (own_strs (n:=cs.length) (base:=w.heap.size+1) (xs:=cs.map (·.name)) (by simp) (by have:=hown.out;unfold cnV at this;rw [List.take_length] at this;exact this) (fun x hx=>by
    obtain ⟨p,hp,rfl⟩:=List.mem_map.1 hx
    obtain ⟨i,hi⟩:=List.getElem?_of_mem hp
    exact HN.out i p hi))
   have EQ:=hideIt (lib_names fun i x hi=>hco.out i x (List.getElem?_eq_some_iff.1 hi).1 hi)
   clear hco hown
   by_cases h8:cs.length≤8
   rotate_left
   ·have EP:=hideIt (show libB cs=false by rw [←EQ.out,decide_eq_false h8,Bool.and_false])
    have h8':decide ((cs.length:Int)≤8)=false:=decide_eq_false (by omega)
    clear h8
    go_wp2
    go_ret
    exact ⟨ret_bool EP.out.symm,GG.out⟩
   ·have h8':decide ((cs.length:Int)≤8)=true:=decide_eq_true (by omega)
    have EP:=hideIt (show libB cs=pB (NamesP (cs.map (·.name))) by rw [←EQ.out,decide_eq_true h8,Bool.and_true])
    clear h8
    go_wp2_with fail
    refine (areNames_any _ RS.out).mono ?_
    rintro e w2 ⟨rfl,g2⟩
    obtain ⟨q,eq⟩:∃q,q=pB (NamesP (cs.map (·.name))):=⟨_,rfl⟩
    rw [←eq]
    have EQ2:=hideIt (EP.out.trans eq.symm)
    have G4:=hideIt (GG.out.trans g2)
    clear g2 eq
    go_wp2
    go_ret
    exact ⟨ret_bool EQ2.out.symm,G4.out⟩
end Go.Proofs.YtlnpefiipdkafaaGreatDoor
/-
  Contracts of CellNamed, the reference's and the program's.
-/
namespace Go.Proofs.YtlnpefiipdkafaaGreatDoor
open Go.RowKit
noncomputable def cellNmV (s:ByteArray) (cs:List CellD):Int:=if libB cs=true then cellI s cs else -1
end Go.Proofs.YtlnpefiipdkafaaGreatDoor
