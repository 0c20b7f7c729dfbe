/-
  Draws of pairs of tables and of arcs.
-/
import Derived.Test.YtlnpefiipdkafaaGreatDoorHU
import Derived.Test.YtlnpefiipdkafaaGreatDoorHV
import Derived.Test.YtlnpefiipdkafaaGreatDoorGB
import Derived.Test.YtlnpefiipdkafaaGreatDoorHW
namespace Go.Proofs.YtlnpefiipdkafaaGreatDoor
open Go.RowKit
theorem SrcAt.drew {w0 w:World} {b:Nat} (h:SrcAt w0 w b):SrcAt w0 w.drew b:=h.grows (Grows.drew (Grows.refl _))
theorem SrcAt.alloc {w0 w:World} {b:Nat} (h:SrcAt w0 w b) (o:Obj):SrcAt w0 (w.alloc o) b:=h.grows ((Grows.refl _).alloc o)
theorem at_w {P:Program} {n:Nat} {args:Array Value} {W:World} {Q:Ending→World→Prop} (st:World→Prop) (hW:st W) (h:∀u,st u→Calls P n args u Q):Calls P n args W Q:=h W hW
theorem at_c {P:Program} {c:Code} {a:Act} {W:World} {Q:Exit→Act→World→Prop} (st:World→Prop) (hW:st W) (h:∀u,st u→Code.wp P c Q a u):Code.wp P c Q a W:=h W hW
theorem OTable.chg {w w':World} {cs:List Value} {t:TableD} {bs ds:List Nat} (h:OTable w cs t bs) (c:Chg ds w w') (hd:∀g∈bs,g∉ds):OTable w' cs t bs:=h.same (c.same h.lt hd)
theorem OTables.chg {w w':World} {v:Value} {t:List TableD} {bs ds:List Nat} (h:OTables w v t bs) (c:Chg ds w w') (hd:∀g∈bs,g∉ds):OTables w' v t bs:=h.same (c.same h.lt hd)
theorem Own.off {lo hi b:Nat} {bs:List Nat} (h:Own lo hi bs) (hb:b<lo):∀g∈bs,g∉[b]:=fun g hg=>by have:=h.2 g hg;simp;omega
/-- what a drawn pair of tables promises -/
def TabsPost (w0 w:World) (b:Nat) (e:Ending) (w':World):Prop :=
 ∃(g n:Nat) (ts:List TableD) (bs:List Nat),e=.returned (.slice (some ⟨g,0,none⟩) 2 n)∧ts.length=2∧OTables w' (.slice (some ⟨g,0,none⟩) 2 n) ts bs∧Own w.heap.size w'.heap.size bs∧(∀t∈ts,bndT t)∧SrcAt w0 w' b∧Chg [b] w w'
set_option maxHeartbeats 2000000 in
theorem l03DrawTables_any {w0 w:World} {b:Nat} (base:Int) (h:SrcAt w0 w b) (s1:-1000≤base) (s2:base≤500) :
  Calls Tryz.prog 134 #[.pointer (some ⟨b,0,none⟩),.int .i64 base] w (TabsPost w0 w b):=by
 have hlt:Hid (b<w.heap.size):=hideIt h.ge.2.2
 go_enter Tryz.func134,Tryz.ntmps134
 go_wp2_with fail
 refine (l02Draw_any (w0:=w0) base h s1 s2).mono ?_
 rintro e u1 ⟨a1,a2,a3,t1,b1,rfl,o1,w1,k1,h1,c1,-⟩
 obtain ⟨⟨A1,n1,rfl⟩,⟨A2,n2,rfl⟩,⟨A3,n3,rfl⟩⟩:=o1.shape
 have O1:=hideIt o1
 have W1:=hideIt w1
 have HS:=hideIt h1
 have HC:=hideIt c1
 clear o1 w1 h1 c1 h
 go_wp2
 refine at_c (fun u=>Blk u u1.heap.size 136 #[.slice A1 t1.slews.length n1,.slice A2 t1.loads.length n2,.slice A3 t1.values.length n3]∧OTable u [.slice A1 t1.slews.length n1,.slice A2 t1.loads.length n2,.slice A3 t1.values.length n3] t1 b1∧SrcAt w0 u b∧Chg [b] w u∧u1.heap.size+1=u.heap.size) ⟨Blk.new _ _ _,O1.out.same ((SameOn.refl _ _).grows O1.out.lt ((Grows.refl _).alloc _)),HS.out.alloc _,HC.out.alloc _,by simp⟩ (fun u2 hu=>?_)
 obtain ⟨kb,ko,ks,kc,kz⟩:=hu
 have S1:Hid (w.heap.size≤u1.heap.size):=hideIt HC.out.size
 have NB:Hid (u1.heap.size∉[b]):=hideIt (by have:=S1.out;have:=hlt.out;simp;omega)
 have KB:=hideIt kb
 have KO:=hideIt ko
 have KS:=hideIt ks
 have KC:=hideIt kc
 have HK:Hid (∀w',Chg [b] u2 w'→w'.cell? ⟨u1.heap.size,0,none⟩=some (.slice A1 t1.slews.length n1)∧w'.cell? ⟨u1.heap.size,1,none⟩=some (.slice A2 t1.loads.length n2)∧w'.cell? ⟨u1.heap.size,2,none⟩=some (.slice A3 t1.values.length n3)):=hideIt (fun w' c=>⟨(KB.out.chg c NB.out).cell 0,(KB.out.chg c NB.out).cell 1,(KB.out.chg c NB.out).cell 2⟩)
 clear kb ko ks kc HS HC O1
 refine wp_region_held_drew (S:=(fun w'=>w'.cell? ⟨u1.heap.size,0,none⟩=some (.slice A1 t1.slews.length n1)∧w'.cell? ⟨u1.heap.size,1,none⟩=some (.slice A2 t1.loads.length n2)∧w'.cell? ⟨u1.heap.size,2,none⟩=some (.slice A3 t1.values.length n3))) (by kernel_rfl) ?_ (fun hh0=>?_)
 ·(try dsimp only);exact HK.out _ (by repeat (first|exact gg|exact Chg.refl _ _|refine Chg.drew ?_|refine Chg.alloc ?_ _))
 refine regTk 0 hh0 ?_
 refine regTk 1 hh0 ?_
 refine regTk 2 hh0 ?_
 refine regCall 3 (fun K hK=>?_)
 go_simp
 refine (l02Draw_any (w0:=w0) base KS.out.drew s1 s2).mono ?_
 rintro e u3 ⟨c1,c2,c3,t2,b2,rfl,o2,w2,k2,h2,g2,-⟩
 obtain ⟨⟨C1,m1,rfl⟩,⟨C2,m2,rfl⟩,⟨C3,m3,rfl⟩⟩:=o2.shape
 have gg:Chg [b] u2 u3:=((Chg.refl _ _).drew).trans g2
 (try go_wp2_with fail)
 refine hK.out _ _ ?_ (fun hh1=>?_)
 ·(try dsimp only);exact HK.out _ (by repeat (first|exact gg|exact Chg.refl _ _|refine Chg.drew ?_|refine Chg.alloc ?_ _))
 clear hK K hh0
 try simp only [Act.put,List.setIfInBounds_toArray,List.set_cons_zero,List.set_cons_succ]
 refine regCall 4 (fun K hK=>?_)
 go_simp
 
 (try go_wp2_with fail)
 refine hK.out _ _ ?_ (fun hh2=>?_)
 ·(try dsimp only);exact HK.out _ (by repeat (first|exact gg|exact Chg.refl _ _|refine Chg.drew ?_|refine Chg.alloc ?_ _))
 clear hK K hh1
 try simp only [Act.put,List.setIfInBounds_toArray,List.set_cons_zero,List.set_cons_succ]
 refine regTk 5 hh2 ?_
 refine wpAnyH_done (by kernel_rfl) ?_ _
 clear hh2
 go_wp2
 refine bodyPost_ret (by simp [*,results,Tryz.results134,go_sem];try rfl) rfl ?_
 have q1:=S1.out
 have q3:=gg.size
 have kc2:=KC.out
 have ko2:=KO.out.chg gg (fun g hg=>by have:=W1.out.2 g hg;have:=hlt.out;simp;omega)
 have own1:Own w.heap.size u3.heap.size (b1++b2):=(W1.out.append (w2.mono (lo':=u1.heap.size) (by simp;omega) (Nat.le_refl _)) q1 (by omega))
 have hh:=(Grows.refl u3).alloc (.cells #[.slice A1 t1.slews.length n1,.slice A2 t1.loads.length n2,.slice A3 t1.values.length n3,.slice C1 t2.slews.length m1,.slice C2 t2.loads.length m2,.slice C3 t2.values.length m3] 136)
 have row:=ORow.lit (sz:=3) (t:=136) (O:=OTable) (lo:=w.heap.size) (w:=u3) (xs:=[t1,t2]) (bss:=[b1,b2]) (cs:=#[.slice A1 t1.slews.length n1,.slice A2 t1.loads.length n2,.slice A3 t1.values.length n3,.slice C1 t2.slews.length m1,.slice C2 t2.loads.length m2,.slice C3 t2.values.length m3]) (Els.cons (es:=[_,_,_]) rfl (ko2.same ((SameOn.refl _ _).grows ko2.lt hh)) (Els.cons (es:=[_,_,_]) rfl (o2.same ((SameOn.refl _ _).grows o2.lt hh)) Els.nil)) (by simp [maxLen]) (by omega) (by simpa using own1)
 refine ⟨_,_,[t1,t2],_,rfl,rfl,row.list,row.own,fun t ht=>?_,h2.alloc _,(kc2.trans gg).alloc _⟩
 simp at ht
 rcases ht with rfl|rfl
 ·exact k1
 ·exact k2
def SmT (ts:List TableD):Prop:=∀t∈ts,bndT t
/-- what a drawn arc promises -/
def ArcPost (w0 w:World) (b:Nat) (kind src dst:Int) (e:Ending) (w':World):Prop :=
 ∃(g n:Nat) (A:Option Addr) (n':Nat) (sn:Int) (ts ss:List TableD) (bs:List Nat),e=.returned (.agg #[.int .i64 kind,.int .i64 src,.int .i64 dst,.int .i64 sn,.slice (some ⟨g,0,none⟩) 2 n,.slice A ss.length n']) ∧
  OArc w' [.int .i64 kind,.int .i64 src,.int .i64 dst,.int .i64 sn,.slice (some ⟨g,0,none⟩) 2 n,.slice A ss.length n'] ⟨kind,src,dst,sn,ts,ss⟩ bs∧ts.length=2∧ss.length≤2∧SmT ts∧SmT ss∧Own w.heap.size w'.heap.size bs∧SrcAt w0 w' b∧Chg [b] w w'
set_option maxHeartbeats 4000000 in
theorem l03DrawArc_any {w0 w:World} {b:Nat} (kind src dst sense:Int) (h:SrcAt w0 w b) :
  Calls Tryz.prog 119 #[.pointer (some ⟨b,0,none⟩),.int .i64 kind,.int .i64 src,.int .i64 dst,.int .i64 sense] w (ArcPost w0 w b kind src dst):=by
 have hlt:Hid (b<w.heap.size):=hideIt h.ge.2.2
 have HG:Hid (w0.heap.size≤w.heap.size):=hideIt h.ge.2.1.size
 have HS:=hideIt (h.alloc (.cells #[.int .i64 0,.int .i64 0,.int .i64 0,.int .i64 0,.slice none 0 0,.slice none 0 0] 134))
 have HC:Hid (Chg [b] w (w.alloc (.cells #[.int .i64 0,.int .i64 0,.int .i64 0,.int .i64 0,.slice none 0 0,.slice none 0 0] 134))):=hideIt ((Chg.refl _ _).alloc _)
 have R:=hideIt (Blk.new w 134 #[.int .i64 0,.int .i64 0,.int .i64 0,.int .i64 0,.slice none 0 0,.slice none 0 0])
 have NR:Hid (w.heap.size∉[b]):=hideIt (by have:=hlt.out;simp;omega)
 clear h
 by_cases hk:4≤kind
 ·go_enter Tryz.func119,Tryz.ntmps119
  go_wp2_with fail
  refine (l01Next_any (w0:=w0) 10 HS.out).mono ?_
  rintro e u1 ⟨r1,rfl,r1a,r1b,h_,c_⟩
  replace HS:=hideIt h_
  replace HC:=hideIt (HC.out.trans c_)
  replace R:=hideIt (R.out.chg c_ NR.out)
  have S1:Hid (w.heap.size+1≤u1.heap.size):=hideIt (by simpa using c_.size)
  clear h_ c_
  have r1c:=r1b (by omega)
  clear r1b
  go_wp2_with fail
  refine (l03DrawTables_any (w0:=w0) _ HS.out (by omega) (by omega)).mono ?_
  rintro e u2 ⟨g,n,ts,bs,rfl,tl,ot,ow,sm,h_,c_⟩
  replace HS:=hideIt h_
  replace HC:=hideIt (HC.out.trans c_)
  replace R:=hideIt (R.out.chg c_ NR.out)
  have OT:=hideIt ot
  have OW:=hideIt ow
  have S2:Hid (u1.heap.size≤u2.heap.size):=hideIt c_.size
  clear h_ c_ ot ow
  have fR:=R.out.frozen
  have lR:=R.out.lt
  have k0:=R.out.cell 0
  have k1:=R.out.cell 1
  have k2:=R.out.cell 2
  have k3:=R.out.cell 3
  have k4:=R.out.cell 4
  have k5:=R.out.cell 5
  simp at k0 k1 k2 k3 k4 k5
  go_wp2
  refine bodyPost_ret (by simp [*,results,Tryz.results119,go_sem];try rfl) rfl ?_
  have key:∀w9,Chg [w.heap.size] u2 w9→u2.heap.size=w9.heap.size→Chg [b] w w9→ArcPost w0 w b kind src dst (.returned (.agg #[.int .i64 kind,.int .i64 src,.int .i64 dst,.int .i64 0,.slice (some ⟨g,0,none⟩) 2 n,.slice none 0 0])) w9:=fun w9 c9 e9 h9=>by
   have q1:=S1.out
   have q2:=S2.out
   refine ⟨g,n,none,0,0,ts,[],bs,rfl,⟨_,_,bs,[],rfl,OT.out.chg c9 (fun g hg=>by have:=OW.out.2 g hg;simp;omega),.inl ⟨rfl,rfl,rfl⟩,by simp⟩,tl,by simp,sm,(fun _ ht=>nomatch ht),OW.out.mono (by omega) (by omega),HS.out.chg c9 (by have:=hlt.out;simp;omega) (fun g hg=>by simp at hg;subst hg;exact HG.out),h9⟩
  refine key _ ?_ ?_ ?_
  ·repeat (first|refine Chg.setCell ?_ (by simp) _|with_reducible exact Chg.refl _ _)
  ·simp [World.setCell]
  ·repeat (first|refine Chg.setNew ?_ (by simp) _|with_reducible exact HC.out)
 ·go_enter Tryz.func119,Tryz.ntmps119
  go_wp2_with fail
  refine (l01Next_any (w0:=w0) 20 HS.out).mono ?_
  rintro e u1 ⟨r1,rfl,r1a,r1b,h_,c_⟩
  replace HS:=hideIt h_
  replace HC:=hideIt (HC.out.trans c_)
  replace R:=hideIt (R.out.chg c_ NR.out)
  have S1:Hid (w.heap.size+1≤u1.heap.size):=hideIt (by simpa using c_.size)
  clear h_ c_
  have r1c:=r1b (by omega)
  clear r1b
  go_wp2_with fail
  refine (l03DrawTables_any (w0:=w0) _ HS.out (by omega) (by omega)).mono ?_
  rintro e u2 ⟨g,n,ts,bs,rfl,tl,ot,ow,sm,h_,c_⟩
  replace HS:=hideIt h_
  replace HC:=hideIt (HC.out.trans c_)
  replace R:=hideIt (R.out.chg c_ NR.out)
  have OT:=hideIt ot
  have OW:=hideIt ow
  have S2:Hid (u1.heap.size≤u2.heap.size):=hideIt c_.size
  have lt2:Hid (b<u1.heap.size):=hideIt (by have:=hlt.out;have:=S1.out;omega)
  clear h_ c_ ot ow
  go_wp2_with fail
  refine (l03DrawTables_any (w0:=w0) 10 HS.out (by omega) (by omega)).mono ?_
  rintro e u3 ⟨g2,n2,ss,bs2,rfl,sl,ot,ow,sm2,h_,c_⟩
  replace HS:=hideIt h_
  replace HC:=hideIt (HC.out.trans c_)
  replace R:=hideIt (R.out.chg c_ NR.out)
  replace OT:=hideIt (OT.out.chg c_ (OW.out.off lt2.out))
  have OT2:=hideIt ot
  have OW2:=hideIt ow
  have S3:Hid (u2.heap.size≤u3.heap.size):=hideIt c_.size
  clear h_ c_ ot ow
  have fR:=R.out.frozen
  have lR:=R.out.lt
  have k0:=R.out.cell 0
  have k1:=R.out.cell 1
  have k2:=R.out.cell 2
  have k3:=R.out.cell 3
  have k4:=R.out.cell 4
  have k5:=R.out.cell 5
  simp at k0 k1 k2 k3 k4 k5
  go_wp2
  refine bodyPost_ret (by simp [*,results,Tryz.results119,go_sem];try rfl) rfl ?_
  have key:∀w9,Chg [w.heap.size] u3 w9→u3.heap.size=w9.heap.size→Chg [b] w w9→ArcPost w0 w b kind src dst (.returned (.agg #[.int .i64 kind,.int .i64 src,.int .i64 dst,.int .i64 sense,.slice (some ⟨g,0,none⟩) 2 n,.slice (some ⟨g2,0,none⟩) 2 n2])) w9:=fun w9 c9 e9 h9=>by
   have q1:=S1.out
   have q2:=S2.out
   have q3:=S3.out
   refine ⟨g,n,some ⟨g2,0,none⟩,n2,sense,ts,ss,bs++bs2,by rw [sl],⟨_,_,bs,bs2,rfl,OT.out.chg c9 (fun g hg=>by have:=OW.out.2 g hg;simp;omega),by rw [sl];exact OT2.out.chg c9 (fun g hg=>by have:=OW2.out.2 g hg;simp;omega),by simp⟩,tl,by omega,sm,sm2,((OW.out.append OW2.out q2 q3).mono (by omega) (by omega)),HS.out.chg c9 (by have:=hlt.out;simp;omega) (fun g hg=>by simp at hg;subst hg;exact HG.out),h9⟩
  refine key _ ?_ ?_ ?_
  ·repeat (first|refine Chg.setCell ?_ (by simp) _|with_reducible exact Chg.refl _ _)
  ·simp [World.setCell]
  ·repeat (first|refine Chg.setNew ?_ (by simp) _|with_reducible exact HC.out)
end Go.Proofs.YtlnpefiipdkafaaGreatDoor
/-
  A drawn gate.
-/
namespace Go.Proofs.YtlnpefiipdkafaaGreatDoor
open Go.RowKit
def OPinB (w:World) (es:List Value) (x:PinD) (b:List Nat):Prop:=OPin w es x b∧x.name.size≤8
def OArcB (w:World) (es:List Value) (x:ArcD) (b:List Nat):Prop:=OArc w es x b∧x.delay.length=2∧x.slew.length≤2∧SmT x.delay∧SmT x.slew
theorem OPinB.same {w w':World} {es:List Value} {x:PinD} {b:List Nat} (h:OPinB w es x b) (g:SameOn b w w'):OPinB w' es x b:=⟨h.1.same g,h.2⟩
theorem OArcB.same {w w':World} {es:List Value} {x:ArcD} {b:List Nat} (h:OArcB w es x b) (g:SameOn b w w'):OArcB w' es x b:=⟨h.1.same g,h.2⟩
theorem OArcB.lt {w:World} {es:List Value} {x:ArcD} {b:List Nat} (h:OArcB w es x b):∀g∈b,g<w.heap.size:=h.1.lt
theorem ORow.pins {lo:Nat} {w:World} {v:Value} {xs:List PinD} {bss:List (List Nat)} (h:ORow 4 125 OPinB lo w v xs bss):OPins w v xs (v.ownBlock.toList++bss.flatten):=by
 obtain ⟨cells,h1,h2,h3⟩:=h
 exact ORow.list ⟨cells,h1,h2.mono fun _ _ _ _ h=>h.1,h3⟩
theorem ORow.arcs {lo:Nat} {w:World} {v:Value} {xs:List ArcD} {bss:List (List Nat)} (h:ORow 6 134 OArcB lo w v xs bss):OArcs w v xs (v.ownBlock.toList++bss.flatten):=by
 obtain ⟨cells,h1,h2,h3⟩:=h
 exact ORow.list ⟨cells,h1,h2.mono fun _ _ _ _ h=>h.1,h3⟩
def bndC (x:CellD):Prop:=x.name.size≤8∧(2≤x.pins.length∧x.pins.length≤5)∧(1≤x.arcs.length∧x.arcs.length≤8)∧x.truth.length≤8
/-- a drawn cell's seven fields, all of its memory its own, with the room behind its rows -/
def OCellB (w:World) (es:List Value) (x:CellD) (bs:List Nat):Prop :=
 ∃(vp va vt:Value) (pss ass:List (List Nat)),es=[.string x.name,.int .i64 x.kind,vp,va,vt,.int .i64 x.leak,.int .i64 x.energy]∧ORow 4 125 OPinB 0 w vp x.pins pss∧ORow 6 134 OArcB 0 w va x.arcs ass∧w.ownsRow 0 2 1 vt x.truth.length (x.truth.map (Value.int .i64)) ∧
  bs=vt.ownBlock.toList++((vp.ownBlock.toList++pss.flatten)++(va.ownBlock.toList++ass.flatten))∧bndC x
theorem OCellB.same {w w':World} {es:List Value} {x:CellD} {bs:List Nat} (h:OCellB w es x bs) (g:SameOn bs w w') (hs:w.heap.size≤w'.heap.size):OCellB w' es x bs:=by
 obtain ⟨vp,va,vt,pss,ass,e,hp,ha,ht,rfl,hb⟩:=h
 exact ⟨vp,va,vt,pss,ass,e,hp.same (g.sub fun _ hq=>List.mem_append_right _ (List.mem_append_left _ hq)) hs (fun _ _ _ h g=>h.same g),ha.same (g.sub fun _ hq=>List.mem_append_right _ (List.mem_append_right _ hq)) hs (fun _ _ _ h g=>h.same g),ownsRow_same ht (g.sub fun _ hq=>List.mem_append_left _ hq),rfl,hb⟩
theorem OCellB.lt {w:World} {es:List Value} {x:CellD} {bs:List Nat} (h:OCellB w es x bs):∀g∈bs,g<w.heap.size:=by
 obtain ⟨vp,va,vt,pss,ass,e,hp,ha,ht,rfl,hb⟩:=h
 intro g hg
 rw [List.mem_append,List.mem_append] at hg
 rcases hg with hg|hg|hg
 ·exact (ht.lt g (by simpa using hg)).2
 ·exact (hp.own.2 g hg).2
 ·exact (ha.own.2 g hg).2
theorem OCellB.cell {w:World} {es:List Value} {x:CellD} {bs:List Nat} (h:OCellB w es x bs):∃bs',OCell w es x bs'∧∀g∈bs',g∈bs:=by
 obtain ⟨vp,va,vt,pss,ass,e,hp,ha,ht,rfl,hb⟩:=h
 obtain ⟨A,c,bt,rfl,o1,-⟩:=own_oints ht
 refine ⟨(vp.ownBlock.toList++pss.flatten)++(va.ownBlock.toList++ass.flatten)++bt,⟨vp,va,_,_,_,bt,e,by have:=hb.1;unfold maxLen;omega,hp.pins,ha.arcs,o1,rfl⟩,fun g hg=>?_⟩
 rw [List.mem_append] at hg
 rcases hg with hg|hg
 ·exact List.mem_append_right _ hg
 ·refine List.mem_append_left _ ?_
  rcases o1 with ⟨_,_,rfl⟩|⟨g',c',cs,bss,hv,h1,h2,hbk,hl,rfl,hc⟩
  ·cases hg
  ·rw [hv]
   simp only [Value.ownBlock,Option.toList_some,List.mem_singleton]
   rcases List.mem_cons.1 hg with hg|hg
   ·exact hg
   ·obtain ⟨b',hb',hq⟩:=List.mem_flatten.1 hg
    obtain ⟨i,hi⟩:=List.getElem?_of_mem hb'
    obtain ⟨es',b'',_,_,e3,e4⟩:=hc i _ (List.getElem?_eq_getElem (by have:=(List.getElem?_eq_some_iff.1 hi).1;omega))
    rw [hi] at e3
    injection e3 with e3
    subst e3
    rw [e4.2] at hq
    cases hq
theorem names_at {w:World} {g k:Nat} {t:TypeId} (h:Blk w g t #[.string ⟨#[97]⟩,.string ⟨#[98]⟩,.string ⟨#[99]⟩,.string ⟨#[100]⟩]) (hk:k<4):∃s:ByteArray,s.size≤8∧w.cell? ⟨g,k,none⟩=some (.string s):=by
 rcases (by omega:k=0∨k=1∨k=2∨k=3) with rfl|rfl|rfl|rfl
 ·exact ⟨⟨#[97]⟩,by decide,h.cell 0⟩
 ·exact ⟨⟨#[98]⟩,by decide,h.cell 1⟩
 ·exact ⟨⟨#[99]⟩,by decide,h.cell 2⟩
 ·exact ⟨⟨#[100]⟩,by decide,h.cell 3⟩
/-- the state of a loop that fills an own row, drawing on the way -/
def RowSt {α:Type} (sz:Nat) (t:TypeId) (O:World→List Value→α→List Nat→Prop) (w0 ua:World) (b:Nat) (v:Value) (xs:List α) (wr:World):Prop :=
 (∃bss,ORow sz t O ua.heap.size wr v xs bss)∧SrcAt w0 wr b∧Chg [b] ua wr
section
variable {α:Type} {sz:Nat} {t:TypeId} {O:World→List Value→α→List Nat→Prop} {w0 ua wr w':World} {b:Nat} {v:Value} {xs:List α}
theorem RowSt.next (h:RowSt sz t O w0 ua b v xs wr) (hb:b<ua.heap.size) (c:Chg [b] wr w') (s:SrcAt w0 w' b) (hO:∀w w' es x b,O w es x b→SameOn b w w'→O w' es x b):RowSt sz t O w0 ua b v xs w':=by
 obtain ⟨⟨bss,h1⟩,h2,h3⟩:=h
 exact ⟨⟨bss,h1.chg c (fun g hg=>by simp at hg;subst hg;exact hb) (fun w'=>hO _ w')⟩,s,h3.trans c⟩
theorem RowSt.slice (h:RowSt sz t O w0 ua b v xs wr):∃(A:Option Addr) (c:Nat),v=.slice A xs.length c:=by
 obtain ⟨⟨bss,h1⟩,-,-⟩:=h
 exact h1.slice
theorem RowSt.lo (h:RowSt sz t O w0 ua b v xs wr):∀k,v.ownBlock=some k→ua.heap.size≤k∧k<wr.heap.size:=by
 obtain ⟨⟨bss,h1⟩,-,-⟩:=h
 intro k e
 exact h1.own.2 k (by rw [e];simp)
theorem RowSt.out (h:RowSt sz t O w0 ua b v xs wr):Hid (SrcAt w0 wr b)∧Hid (Chg [b] ua wr):=⟨hideIt h.2.1,hideIt h.2.2⟩
/-- an element is appended: the world ahead of it is u -/
theorem wp_append_st {P:Program} {e:TypeId} {i:TypeInfo} {z:Value} {u:World} {o:Oper} {a:Act} {K:Act→World→Prop} {Q:Exit→Act→World→Prop} (s x:Operand) (ts:TypeId) (ho:o.op=.call { callee:=.builtin .append,args:=#[s,x],argTypes:=#[ts,ts] })
  (ht:P.underlying ts=some (.slice e)) (hi:P.info? e=some i) (hz:i.zero=some z) (hsz:i.size=sz) (hb:i.bytes≤256) (hzs:z.cells.size=sz) (h0:0<sz) (hs:a.eval s=v)
  (hst:RowSt sz e O w0 ua b v xs wr) (hba:b<ua.heap.size) (hO:∀w w' es x b,O w es x b→SameOn b w w'→O w' es x b) (hcg:Chg [b] wr u) (hsrc:SrcAt w0 u b) (ad:Addr) (c:Nat) (es:List Value) (y:α) (bb:List Nat) (hx:a.eval x=.slice (some ad) 1 c) (hl:es.length=sz) (hnews:∀j w,es[j]?=some w→u.cell? (ad.add j)=some w) (h1:∀w∈es,w.oneCell'=true)
  (hn:xs.length≤1000) (hy:O u es y bb) (hown:Own wr.heap.size u.heap.size bb)
  (h:∀v' w',RowSt sz e O w0 ua b v' (xs++[y]) w'→Chg (b::v.ownBlock.toList) u w'→K (a.put o.dst v') w'):o.wp P a u K Q:=by
 obtain ⟨⟨bss,h2⟩,h3,h4⟩:=hst
 have hrow:=h2.chg hcg (fun g hg=>by simp at hg;subst hg;exact hba) (fun w'=>hO _ w')
 have hq:=hcg.size
 have hq2:=h4.size
 refine wp_append_row s x ts ho ht hi hz hsz hb hzs h0 hs hrow (by omega) ad c es y bb hx hl hnews h1 hn hy (h2.own.append hown (by omega) hq) (fun w'=>hO _ w') (fun v' w' r1 r2 r3=>?_)
 have hge:∀k,v.ownBlock=some k→ua.heap.size≤k:=fun k e=>(h2.own.2 k (by rw [e];simp)).1
 refine h v' w' ⟨⟨_,r1⟩,hsrc.grown r2 (fun k e=>by have:=hge k e;omega),(h4.trans hcg).grown r2 (fun k e=>.inr (hge k e))⟩ ?_
 exact (Chg.refl _ _).grown r2 (fun k e=>.inl (by rw [e];simp))
theorem wpList_append_st {P:Program} {e:TypeId} {i:TypeInfo} {z:Value} {u:World} {ops:Array Oper} {rest:List Oper} {o:Oper} {a:Act} {Q:Exit→Act→World→Prop} (hgd:o.guard=none) (s x:Operand) (ts:TypeId) (ho:o.op=.call { callee:=.builtin .append,args:=#[s,x],argTypes:=#[ts,ts] })
  (ht:P.underlying ts=some (.slice e)) (hi:P.info? e=some i) (hz:i.zero=some z) (hsz:i.size=sz) (hb:i.bytes≤256) (hzs:z.cells.size=sz) (h0:0<sz) (hs:a.eval s=v)
  (hst:RowSt sz e O w0 ua b v xs wr) (hba:b<ua.heap.size) (hO:∀w w' es x b,O w es x b→SameOn b w w'→O w' es x b) (hcg:Chg [b] wr u) (hsrc:SrcAt w0 u b) (ad:Addr) (c:Nat) (es:List Value) (y:α) (bb:List Nat) (hx:a.eval x=.slice (some ad) 1 c) (hl:es.length=sz) (hnews:∀j w,es[j]?=some w→u.cell? (ad.add j)=some w) (h1:∀w∈es,w.oneCell'=true)
  (hn:xs.length≤1000) (hy:O u es y bb) (hown:Own wr.heap.size u.heap.size bb)
  (h:∀v' w',RowSt sz e O w0 ua b v' (xs++[y]) w'→Chg (b::v.ownBlock.toList) u w'→wpList P ops Q rest (a.put o.dst v') w'):wpList P ops Q (o::rest) a u :=
 wpList_plain hgd fun _ hK=>wp_append_st s x ts ho ht hi hz hsz hb hzs h0 hs hst hba hO hcg hsrc ad c es y bb hx hl hnews h1 hn hy hown fun v' w' h2 h3=>hK _ _ (h v' w' h2 h3)
end
theorem info_PinB:(Tryz.prog.info? 125).map (fun i=>(i.zero,i.size))=some (some (.agg #[.string .empty,.int .i64 0,.int .i64 0,.bool false]),4):=info_Pin
theorem info_two {P:Program} {e:TypeId} {z:Value} {size:Nat} (h:(P.info? e).map (fun i=>(i.zero,i.size))=some (some z,size)) (hb:∀i,P.info? e=some i→i.bytes≤256):∃i,P.info? e=some i∧i.zero=some z∧i.size=size∧i.bytes≤256:=by
 obtain ⟨i,hi,hzz⟩:=Option.map_eq_some_iff.1 h
 simp only [Prod.mk.injEq] at hzz
 exact ⟨i,hi,hzz.1,hzz.2,hb i hi⟩
theorem own_val {w:World} {base n sz:Nat} {t:TypeId} {v:Value} {xs:List Value} (h:w.ownsRow base t sz v n xs):Own base w.heap.size v.ownBlock.toList:=by
 cases e:v.ownBlock with
 | none=>exact Own.nil
 | some k=>exact Own.one (h.lt k e).1 (h.lt k e).2
/-- what a drawn cell promises: its memory is its own, from lo on -/
def CellPost (w0 w:World) (b lo:Nat) (e:Ending) (w':World):Prop :=
 ∃(vp va vt:Value) (x:CellD) (bs:List Nat),e=.returned (.agg #[.string x.name,.int .i64 x.kind,vp,va,vt,.int .i64 x.leak,.int .i64 x.energy])∧OCellB w' [.string x.name,.int .i64 x.kind,vp,va,vt,.int .i64 x.leak,.int .i64 x.energy] x bs∧Own lo w'.heap.size bs∧SrcAt w0 w' b∧Chg [b] w w'
set_option maxHeartbeats 16000000 in
set_option maxRecDepth 10000 in
theorem l03Gate_any {w0 w:World} {b lt m:Nat} {name:ByteArray} {tv:Value} {truth:List Int} (h:SrcAt w0 w b) (ht:w.ownsRow lt 2 1 tv truth.length (truth.map (Value.int .i64))) (hb:b<lt) (hlt:lt≤w.heap.size) (hz:name.size≤8) (hm:1≤m∧m≤3) (hl:truth.length=2 ^ m) (hG:∀p,p<m→GateT truth p) (hS:∃p,p<m∧senN truth p≠0) :
  Calls Tryz.prog 102 #[.pointer (some ⟨b,0,none⟩),.string name,tv] w (CellPost w0 w b lt):=by
 have hbw:Hid (b<w.heap.size):=hideIt h.ge.2.2
 have HG:Hid (w0.heap.size≤w.heap.size):=hideIt h.ge.2.1.size
 have GT:=hideIt hG
 have HSE:=hideIt hS
 have hl8:truth.length≤8:=by rw [hl];exact Nat.pow_le_pow_right (n:=2) (by decide) hm.2
 obtain ⟨At,ct,rfl⟩:=own_slice ht
 have TR:=hideIt ht
 have HS:=hideIt h
 obtain ⟨iP,hiP,hzP,hsP,hbP⟩:=info_two info_Pin bytes_Pin
 obtain ⟨iA,hiA,hzA,hsA,hbA⟩:=info_two info_Arc bytes_Arc
 have HL:=hideIt hl
 have HM:=hideIt hm
 clear h ht hG hS hl hm
 go_enter Tryz.func102,Tryz.ntmps102
 go_wp2_with fail
 refine at_w (fun u=>Blk u w.heap.size 112 #[.string .empty,.int .i64 0,.slice none 0 0,.slice none 0 0,.slice none 0 0,.int .i64 0,.int .i64 0]∧Blk u (w.heap.size+1) 9 #[.string ⟨#[97]⟩,.string ⟨#[98]⟩,.string ⟨#[99]⟩,.string ⟨#[100]⟩]∧SrcAt w0 u b∧Chg [b] w u∧w.heap.size+2=u.heap.size) ⟨(Blk.new w _ _).grows ((Grows.refl _).alloc _),by have:=Blk.new (w.alloc (.cells #[.string .empty,.int .i64 0,.slice none 0 0,.slice none 0 0,.slice none 0 0,.int .i64 0,.int .i64 0] 112)) 9 #[.string ⟨#[97]⟩,.string ⟨#[98]⟩,.string ⟨#[99]⟩,.string ⟨#[100]⟩];rw [show (w.alloc (.cells #[.string .empty,.int .i64 0,.slice none 0 0,.slice none 0 0,.slice none 0 0,.int .i64 0,.int .i64 0] 112)).heap.size=w.heap.size+1 by simp] at this;exact this,(HS.out.alloc _).alloc _,((Chg.refl _ _).alloc _).alloc _,by simp⟩ (fun u0 hu=>?_)
 obtain ⟨r0,n0,s0,c0,z0⟩:=hu
 replace HS:=hideIt s0
 have HC:=hideIt c0
 have R:=hideIt r0
 have NB4:=hideIt n0
 have NR:Hid (w.heap.size∉[b]):=hideIt (by have:=hbw.out;simp;omega)
 have NN:Hid (w.heap.size+1∉[b]):=hideIt (by have:=hbw.out;simp;omega)
 have TB:Hid (∀g∈[b],g<lt):=hideIt (fun g hg=>by simp at hg;subst hg;exact hb)
 have S0:=hideIt z0
 clear r0 n0 s0 c0 z0
 refine (l01Next_any (w0:=w0) 50 HS.out).mono ?_
 rintro e u1 ⟨lk,rfl,lka,lkb,h_,c_⟩
 have S1:Hid (u0.heap.size≤u1.heap.size):=hideIt c_.size
 replace HS:=hideIt h_
 replace HC:=hideIt (HC.out.trans c_)
 replace R:=hideIt (R.out.chg c_ NR.out)
 replace NB4:=hideIt (NB4.out.chg c_ NN.out)
 clear h_ c_ lka lkb
 go_wp2_with fail
 refine (l01Next_any (w0:=w0) 80 HS.out).mono ?_
 rintro e u2 ⟨en,rfl,ena,enb,h_,c_⟩
 have S2:Hid (u1.heap.size≤u2.heap.size):=hideIt c_.size
 replace HS:=hideIt h_
 replace HC:=hideIt (HC.out.trans c_)
 replace R:=hideIt (R.out.chg c_ NR.out)
 replace NB4:=hideIt (NB4.out.chg c_ NN.out)
 clear h_ c_ ena enb
 obtain ⟨ua,hua⟩:∃ua,ua=u2.alloc (.cells #[.string name,.int .i64 1,.slice none 0 0,.slice none 0 0,.slice At truth.length ct,.int .i64 lk,.int .i64 en] 112):=⟨_,rfl⟩
 have za:Hid (u2.heap.size+1=ua.heap.size):=hideIt (by rw [hua];simp)
 have KB:Hid (Blk ua u2.heap.size 112 #[.string name,.int .i64 1,.slice none 0 0,.slice none 0 0,.slice At truth.length ct,.int .i64 lk,.int .i64 en]):=hideIt (by rw [hua];exact Blk.new _ _ _)
 have NB:Hid (u2.heap.size∉[b]):=hideIt (by have:=hbw.out;have:=S0.out;have:=S1.out;have:=S2.out;simp;omega)
 replace HS:Hid (SrcAt w0 ua b):=hideIt (by rw [hua];exact HS.out.alloc _)
 replace HC:Hid (Chg [b] w ua):=hideIt (by rw [hua];exact HC.out.alloc _)
 replace R:Hid (Blk ua w.heap.size 112 #[.string .empty,.int .i64 0,.slice none 0 0,.slice none 0 0,.slice none 0 0,.int .i64 0,.int .i64 0]):=hideIt (by rw [hua];exact R.out.grows ((Grows.refl _).alloc _))
 replace NB4:Hid (Blk ua (w.heap.size+1) 9 #[.string ⟨#[97]⟩,.string ⟨#[98]⟩,.string ⟨#[99]⟩,.string ⟨#[100]⟩]):=hideIt (by rw [hua];exact NB4.out.grows ((Grows.refl _).alloc _))
 have bl:Hid (∀g∈[b],g<ua.heap.size):=hideIt (fun g hg=>by have:=hbw.out;have:=S0.out;have:=S1.out;have:=S2.out;have:=za.out;simp at hg;omega)
 have HU:=hideIt hua
 clear hua
 go_wp2
 have hua:=HU.out
 have za2:=za.out
 refine at_c (fun u=>Chg [b] ua u∧SrcAt w0 u b∧ORow 4 125 OPinB ua.heap.size u (.slice (some ⟨u2.heap.size+1,0,none⟩) 0 0) ([]:List PinD) []) ⟨by rw [←hua];exact (Chg.refl _ _).alloc _,by rw [←hua];exact HS.out.alloc _,by rw [←hua];have:=ORow.empty (sz:=4) (t:=125) (O:=OPinB) (w:=ua) (Nat.le_refl _);rw [←za2] at this ⊢;exact this⟩ (fun u3 hu=>?_)
 obtain ⟨c3,s3,r3⟩:=hu
 have C3:=hideIt c3
 have H3:=hideIt s3
 have O3:=hideIt r3
 clear c3 s3 r3 hua za2
 have PB:Hid (b<ua.heap.size):=hideIt (bl.out b (by simp))
 have ST:=hideIt (⟨⟨[],O3.out⟩,H3.out,C3.out⟩:RowSt 4 125 OPinB w0 ua b (.slice (some ⟨u2.heap.size+1,0,none⟩) 0 0) ([]:List PinD) u3)
 have HCA:=HC
 clear C3 H3 O3 HC HS
 go_wp2
 go_loopw [9,10] (fun p n wr=>∃(pv:Value) (xs:List PinD) (N:Int),pv=p∧n=.int .i64 N∧Hid (N=(2:Int) ^ xs.length)∧(1≤N∧N≤8)∧xs.length≤m∧Hid (RowSt 4 125 OPinB w0 ua b pv xs wr)) (fun _ n _=>truth.length - (intOf n).toNat)
 case atStart=>exact ⟨_,[],1,rfl,rfl,hideIt rfl,by omega,Nat.zero_le _,ST⟩
 case round =>
  clear ST
  obtain ⟨pv,xs,N,rfl,rfl,HN,⟨N1,N2⟩,xm,ST⟩:=hrel
  obtain ⟨A,c,rfl⟩:=ST.out.slice
  by_cases hlt2:N<(truth.length:Int)
  ·have hk2:xs.length<m:=by
    have e1:=HN.out
    have e2:=HL.out
    rcases Nat.lt_or_ge xs.length m with h|h
    ·exact h
    ·exfalso
     have:(2:Nat) ^ m≤2 ^ xs.length:=Nat.pow_le_pow_right (by decide) h
     have e3:(N:Int)=((2 ^ xs.length:Nat):Int):=by rw [e1];simp
     omega
   have xl:xs.length≤2:=by have:=HM.out;omega
   have N4:N≤4:=by
    have e1:=HN.out
    rcases (by omega:xs.length=0∨xs.length=1∨xs.length=2) with e|e|e<;>rw [e] at e1<;>simp at e1<;>omega
   have SO:=ST.out.out
   obtain ⟨HS,HC⟩:=SO
   have NN2:=hideIt (NB4.out.chg HC.out NN.out)
   obtain ⟨nm,nz,hnm⟩:=names_at NN2.out (by omega:xs.length<4)
   have HK:Hid (∀w',Chg (b::(Value.slice A xs.length c).ownBlock.toList) wr w'→w'.cell? ⟨w.heap.size+1,xs.length,none⟩=some (.string nm)):=hideIt (fun w' cg=>cg.cell hnm (fun hm=>by
    have q1:=hbw.out
    rcases List.mem_cons.1 hm with hm|hm
    ·simp at hm;omega
    ·have:=ST.out.lo _ (by simpa using hm)
     have q2:=S0.out
     have q3:=S1.out
     have q4:=S2.out
     have q5:=za.out
     omega))
   clear hnm NN2
   have xi:(xs.length:Int)<4:=by omega
   go_wp2
   refine wp_region_held_drew (S:=(fun w'=>w'.cell? ⟨w.heap.size+1,xs.length,none⟩=some (.string nm))) (by kernel_rfl) ?_ (fun hh0=>?_)
   ·(try dsimp only);exact HK.out _ (by repeat (first|exact gg|exact Chg.refl _ _|refine Chg.drew ?_|refine Chg.alloc ?_ _))
   refine regTk 0 hh0 ?_
   refine regTk 1 hh0 ?_
   refine regTk 2 hh0 ?_
   refine regTk 3 hh0 ?_
   refine regTk 4 hh0 ?_
   refine regTk 5 hh0 ?_
   refine regTk 6 hh0 ?_
   refine regCall 7 (fun K hK=>?_)
   go_simp
   refine (l01Next_any (w0:=w0) 9 HS.out.drew).mono ?_
   rintro e u4 ⟨r,rfl,ra,rb,h_,c_⟩
   have rc:=rb (by omega)
   have ew:IntKind.i64.wrap (1+r)=1+r:=IntWalk.i64_in _ (by omega)
   have gg:Chg (b::(Value.slice A xs.length c).ownBlock.toList) wr u4:=((Chg.refl _ _).drew).trans (c_.mono (by simp))
   have g1:Hid (Chg [b] wr u4):=hideIt (((Chg.refl _ _).drew).trans c_)
   have s1:=hideIt h_
   clear rb h_ c_
   (try go_wp2_with fail)
   refine hK.out _ _ ?_ (fun hh1=>?_)
   ·(try dsimp only);exact HK.out _ (by repeat (first|exact gg|exact Chg.refl _ _|refine Chg.drew ?_|refine Chg.alloc ?_ _))
   clear hK K hh0
   try simp only [Act.put,List.setIfInBounds_toArray,List.set_cons_zero,List.set_cons_succ]
   refine regTk 8 hh1 ?_
   refine regTk 9 hh1 ?_
   refine regCall 10 (fun K hK=>?_)
   go_simp
   
   (try go_wp2_with fail)
   refine hK.out _ _ ?_ (fun hh2=>?_)
   ·(try dsimp only);exact HK.out _ (by repeat (first|exact gg|exact Chg.refl _ _|refine Chg.drew ?_|refine Chg.alloc ?_ _))
   clear hK K hh1
   try simp only [Act.put,List.setIfInBounds_toArray,List.set_cons_zero,List.set_cons_succ]
   refine regCall 11 (fun K hK=>?_)
   refine wp_append_st _ _ 109 rfl Tryz.underlying109 hiP hzP hsP hbP rfl (by decide) rfl ST.out PB.out (fun _ _ _ _ _ h g=>h.same g) (g1.out.alloc _) (s1.out.alloc _) ⟨u4.heap.size,0,none⟩ 1 [.string nm,.int .i64 1,.int .i64 (1+r),.bool false] ⟨nm,1,1+r,false⟩ [] rfl rfl (cells_new _ _ _) (by intro u hu;simp at hu;rcases hu with rfl|rfl|rfl|rfl<;>rfl) (by omega) ?_ Own.nil ?_
   ·exact ⟨⟨rfl,by show nm.size≤_;unfold maxLen;omega,rfl⟩,nz⟩
   intro v' w4 r1 r2
   replace gg:Chg (b::(Value.slice A xs.length c).ownBlock.toList) wr w4:=(gg.alloc _).trans r2
   replace ST:=hideIt r1
   clear r1 r2
   refine hK.out _ _ ?_ (fun hh3=>?_)
   ·(try dsimp only);exact HK.out _ (by repeat (first|exact gg|exact Chg.refl _ _|refine Chg.drew ?_|refine Chg.alloc ?_ _))
   clear hK K hh2
   try simp only [Act.put,List.setIfInBounds_toArray,List.set_cons_zero,List.set_cons_succ]
   refine regTk 12 hh3 ?_
   refine wpAnyH_done (by kernel_rfl) ?_ _
   clear hh3
   go_wp2
   go_roundw
   case rel=>exact ⟨_,xs++[⟨nm,1,1+r,false⟩],2 * N,rfl,by go_num,hideIt (by rw [List.length_append,HN.out];simp [Int.pow_succ,Int.mul_comm]),by omega,by simp;omega,ST⟩
   case measure=>simp [intOf];omega
  ·have km:xs.length=m:=by
    have e1:=HN.out
    have e2:=HL.out
    rcases Nat.lt_or_ge xs.length m with h|h
    ·exfalso
     have:(2:Nat) ^ xs.length<2 ^ m:=Nat.pow_lt_pow_right (by decide) h
     have e3:(N:Int)=((2 ^ xs.length:Nat):Int):=by rw [e1];simp
     omega
    ·omega
   have KM:=hideIt km
   have xl:xs.length≤3:=by have:=HM.out;omega
   clear km
   obtain ⟨HS,HC⟩:=ST.out.out
   have HCW:Hid (Chg [b] w wr):=hideIt (HCA.out.trans HC.out)
   have KBw:=hideIt (KB.out.chg HC.out NB.out)
   have fR:=KBw.out.frozen
   have lR:=KBw.out.lt
   go_wp2_with (at_builtin;refine wpList_append_st rfl _ _ 109 rfl Tryz.underlying109 hiP hzP hsP hbP rfl (by decide) rfl ST.out PB.out (fun _ _ _ _ _ h g=>h.same g) ((Chg.refl _ _).alloc _) (HS.out.alloc _) ⟨wr.heap.size,0,none⟩ 1 [.string ⟨#[121]⟩,.int .i64 2,.int .i64 0,.bool false] ⟨⟨#[121]⟩,2,0,false⟩ [] rfl rfl (cells_new _ _ _) (by intro u hu;simp at hu;rcases hu with rfl|rfl|rfl|rfl<;>rfl) (by omega) ⟨⟨rfl,by decide,rfl⟩,by decide⟩ Own.nil ?_)
   intro v' w4 r1 r2
   obtain ⟨A2,c2,ev⟩:=r1.slice
   have ev2:v'=.slice A2 (xs.length+1) c2:=by rw [ev,List.length_append];rfl
   clear ev
   subst ev2
   have KB4:Hid (Blk w4 u2.heap.size 112 #[.string name,.int .i64 1,.slice none 0 0,.slice none 0 0,.slice At truth.length ct,.int .i64 lk,.int .i64 en]):=hideIt (KBw.out.chg (((Chg.refl _ _).alloc _).trans r2) (fun hm=>by
    rcases List.mem_cons.1 hm with hm|hm
    ·exact NB.out (by simp [hm])
    ·have:=ST.out.lo _ (by simpa using hm)
     have:=za.out
     omega))
   have RR4:Hid (Blk w4 w.heap.size 112 #[.string .empty,.int .i64 0,.slice none 0 0,.slice none 0 0,.slice none 0 0,.int .i64 0,.int .i64 0]):=hideIt ((R.out.chg HC.out NR.out).chg (((Chg.refl _ _).alloc _).trans r2) (fun hm=>by
    rcases List.mem_cons.1 hm with hm|hm
    ·exact NR.out (by simp [hm])
    ·have:=ST.out.lo _ (by simpa using hm)
     have:=za.out
     have:=S0.out
     have:=S1.out
     have:=S2.out
     omega))
   have fR:=KB4.out.frozen
   have lR:=KB4.out.lt
   have P4:=hideIt r1
   have C4:Hid (Chg [b] w w4):=hideIt (HCA.out.trans r1.2.2)
   have k0:=KB4.out.cell 0
   have k1:=KB4.out.cell 1
   have k2:=KB4.out.cell 2
   have k3:=KB4.out.cell 3
   have k4:=KB4.out.cell 4
   have k5:=KB4.out.cell 5
   have k6:=KB4.out.cell 6
   simp at k0 k1 k2 k3 k4 k5 k6
   clear r1 r2
   go_wp2
   obtain ⟨uc,huc⟩:∃uc,uc=w4.setCell ⟨u2.heap.size,2,none⟩ (.slice A2 (xs.length+1) c2):=⟨_,rfl⟩
   obtain ⟨ps,hps⟩:∃ps,ps=xs++[(⟨⟨#[121]⟩,2,0,false⟩:PinD)]:=⟨_,rfl⟩
   have PL:Hid (ps.length=xs.length+1):=hideIt (by rw [hps];simp)
   have zc:Hid (uc.heap.size=w4.heap.size):=hideIt (by rw [huc];simp [World.setCell])
   have cu:Chg [u2.heap.size] w4 uc:=by rw [huc];exact (Chg.refl _ _).setCell (by simp) _
   have UC:Hid (Blk uc u2.heap.size 112 #[.string name,.int .i64 1,.slice A2 (xs.length+1) c2,.slice none 0 0,.slice At truth.length ct,.int .i64 lk,.int .i64 en]):=hideIt (by rw [huc];exact KB4.out.setE (i:=2) rfl)
   have UW:Hid (w.heap.size≤u2.heap.size):=hideIt (by have:=S0.out;have:=S1.out;have:=S2.out;omega)
   have RC:Hid (Blk uc w.heap.size 112 #[.string .empty,.int .i64 0,.slice none 0 0,.slice none 0 0,.slice none 0 0,.int .i64 0,.int .i64 0]):=hideIt (RR4.out.chg cu (by have:=S0.out;have:=S1.out;have:=S2.out;simp;omega))
   have CU:Hid (Chg [b] w uc):=hideIt (by rw [huc];exact C4.out.setNew UW.out _)
   have SU:Hid (SrcAt w0 uc b):=hideIt (P4.out.2.1.chg cu (by have:=NB.out;simp at this ⊢;omega) (fun g hg=>by simp at hg;have:=UW.out;have:=HG.out;omega))
   obtain ⟨pss,pc⟩:∃pss,ORow 4 125 OPinB ua.heap.size uc (.slice A2 (xs.length+1) c2) ps pss:=by
    obtain ⟨⟨pss,h⟩,-,-⟩:=P4.out
    rw [←hps] at h
    exact ⟨pss,h.chg cu (fun g hg=>by simp at hg;have:=za.out;omega) (fun w' es x b h g=>h.same g)⟩
   have PC:=hideIt pc
   have QC:Hid (ua.heap.size≤uc.heap.size∧b<uc.heap.size):=hideIt (by have:=HC.out.size;have:=C4.out.size;have:=bl.out b (by simp);have:=zc.out;have:=P4.out.2.2.size;omega)
   refine at_c (fun u=>Chg [b] uc u∧SrcAt w0 u b∧ORow 6 134 OArcB uc.heap.size u (.slice (some ⟨w4.heap.size,0,none⟩) 0 0) ([]:List ArcD) []) ⟨by rw [←huc];exact (Chg.refl _ _).alloc _,by rw [←huc];exact SU.out.alloc _,by rw [←huc];have:=ORow.empty (sz:=6) (t:=134) (O:=OArcB) (w:=uc) (Nat.le_refl _);rw [zc.out] at this ⊢;exact this⟩ (fun u5 hu=>?_)
   obtain ⟨c5,s5,r5⟩:=hu
   have ST2:=hideIt (⟨⟨[],r5⟩,s5,c5⟩:RowSt 6 134 OArcB w0 uc b (.slice (some ⟨w4.heap.size,0,none⟩) 0 0) ([]:List ArcD) u5)
   clear c5 s5 r5 huc hps cu pc k0 k1 k2 k3 k4 k5 k6 fR lR P4 KB4 C4 KBw HCW HS HC HN ST RR4
   clear fR lR
   go_loopw [12,13,14] (fun ar pn sn wq=>∃(av:Value) (ax:List ArcD) (p:Nat),av=ar∧pn=.int .i64 (p:Int)∧p≤xs.length∧Hid (ax.length≤p)∧Hid ((∃q,q<p∧senN truth q≠0)→1≤ax.length)∧Hid (RowSt 6 134 OArcB w0 uc b av ax wq)) (fun _ pn _ _=>xs.length - (intOf pn).toNat)
   case atStart=>exact ⟨_,[],0,rfl,rfl,Nat.zero_le _,hideIt (Nat.le_refl _),hideIt (fun ⟨q,hq,_⟩=>by omega),ST2⟩
   case round =>
    clear ST2
    obtain ⟨av,ax,p,rfl,rfl,pm,AL,AN,ST⟩:=hrel
    obtain ⟨A3,c3,rfl⟩:=ST.out.slice
    obtain ⟨HS,HC⟩:=ST.out.out
    have KC:=hideIt (UC.out.chg HC.out NB.out)
    have CW:Hid (Chg [b] w wr):=hideIt (CU.out.trans HC.out)
    have PW:=hideIt (PC.out.chg HC.out (fun g hg=>by simp at hg;subst hg;exact PB.out) (fun w' es x b h g=>h.same g))
    have TW:=hideIt (ownsRow_chg TR.out CW.out TB.out)
    have al8:ax.length≤8:=by have:=AL.out;omega
    have fR:=KC.out.frozen
    have lR:=KC.out.lt
    have k0:=KC.out.cell 0
    have k1:=KC.out.cell 1
    have k2:=KC.out.cell 2
    have k3:=KC.out.cell 3
    have k4:=KC.out.cell 4
    have k5:=KC.out.cell 5
    have k6:=KC.out.cell 6
    simp at k0 k1 k2 k3 k4 k5 k6
    by_cases hp:p<xs.length
    ·have PR:RCell wr [.string name,.int .i64 1,.slice A2 (xs.length+1) c2,.slice none 0 0,.slice At truth.length ct,.int .i64 lk,.int .i64 en] ⟨name,1,ps,[],truth,lk,en⟩:=⟨_,_,_,rfl,by show name.size≤_;unfold maxLen;omega,PW.out.pins.reads,OArcs.reads (.inl ⟨rfl,rfl,rfl⟩),by obtain ⟨_,_,_,_,o1,_⟩:=own_oints TW.out;exact o1.reads⟩
     have PRH:=hideIt PR
     have GP:=hideIt (GT.out p (by rw [←KM.out];exact hp))
     have pi:(p:Int)<(xs.length:Int):=by omega
     clear PR
     go_wp2_with fail
     refine (l03Sense_any (p:=p) _ PRH.out GP.out).mono ?_
     rintro e u6 ⟨rfl,g6⟩
     have ST6:=hideIt (ST.out.next QC.out.2 (Chg.of_grows g6) (HS.out.grows g6) (fun _ _ _ _ _ h g=>h.same g))
     have HS6:=hideIt (HS.out.grows g6)
     clear g6 PRH GP KC PW TW HC CW ST HS k0 k1 k2 k3 k4 k5 k6 fR lR
     obtain ⟨sn0,hsn⟩:∃z:Int,z=senN truth p:=⟨_,rfl⟩
     rw [←hsn]
     have SN:=hideIt hsn
     clear hsn
     by_cases hS:sn0=0
     ·have AN2:Hid ((∃q,q<p+1∧senN truth q≠0)→1≤ax.length):=hideIt (fun ⟨q,hq,hs⟩=>by
       rcases Nat.lt_or_ge q p with h|h
       ·exact AN.out ⟨q,h,hs⟩
       ·have:q=p:=by omega
        subst this
        exact absurd (SN.out.symm.trans hS) hs)
      have ALH:=hideIt (Nat.le_succ_of_le AL.out)
      clear AN AL SN
      have hs0:(sn0 != 0)=false:=by simp [hS]
      clear hS
      go_wp2
      go_roundw
      case rel=>exact ⟨_,ax,p+1,rfl,by go_num,by omega,ALH,AN2,ST6⟩
      case measure=>simp [intOf];omega
     ·have hs0:(sn0 != 0)=true:=by simpa using hS
      have AL2:=AL
      clear hS AN AL SN
      go_wp2_with fail
      refine (l03DrawArc_any (w0:=w0) 1 _ _ _ HS6.out).mono ?_
      rintro e u7 ⟨g,n,A',n',sn,ts,ss,bs,rfl,oa,tl,sl,sm1,sm2,ow,hs,hc⟩
      have OA:=hideIt (⟨oa,tl,sl,sm1,sm2⟩:OArcB u7 [.int .i64 1,.int .i64 (p:Int),.int .i64 (xs.length:Int),.int .i64 sn,.slice (some ⟨g,0,none⟩) 2 n,.slice A' ss.length n'] ⟨1,p,xs.length,sn,ts,ss⟩ bs)
      have OW:=hideIt ow
      have HS7:=hideIt hs
      have HC7:=hideIt hc
      clear oa tl sl sm1 sm2 ow hs hc
      go_wp2_with (at_builtin;go_loud (refine wpList_append_st rfl _ _ 110 rfl Tryz.underlying110 hiA hzA hsA hbA rfl (by decide) rfl ST6.out QC.out.2 (fun _ _ _ _ _ h g=>h.same g) (HC7.out.alloc _) (HS7.out.alloc _) ⟨u7.heap.size,0,none⟩ 1 [.int .i64 1,.int .i64 (p:Int),.int .i64 (xs.length:Int),.int .i64 sn,.slice (some ⟨g,0,none⟩) 2 n,.slice A' ss.length n'] ⟨1,p,xs.length,sn,ts,ss⟩ bs rfl rfl (cells_new _ _ _) (by intro u hu;simp at hu;rcases hu with rfl|rfl|rfl|rfl|rfl|rfl<;>rfl) (by omega) (OArcB.same OA.out ((SameOn.refl _ _).grows (OArcB.lt OA.out) ((Grows.refl _).alloc _))) (OW.out.mono (Nat.le_refl _) (by simp)) ?_))
      intro v' w8 r1 r2
      have ST8:=hideIt r1
      clear r1 r2
      go_wp2
      go_roundw
      case rel=>exact ⟨_,ax++[⟨1,p,xs.length,sn,ts,ss⟩],p+1,rfl,by go_num,by omega,hideIt (by have:=AL2.out;simp;omega),hideIt (fun _=>by simp),ST8⟩
      case measure=>simp [intOf];omega
    ·have pe:p=xs.length:=by omega
     have A1:1≤ax.length:=by
      obtain ⟨q,hq,hs⟩:=HSE.out
      exact AN.out ⟨q,by rw [pe,KM.out];exact hq,hs⟩
     clear pe
     have KR:=hideIt (RC.out.chg HC.out NR.out)
     have fR2:=KR.out.frozen
     have lR2:=KR.out.lt
     have z0:=KR.out.cell 0
     have z1:=KR.out.cell 1
     have z2:=KR.out.cell 2
     have z3:=KR.out.cell 3
     have z4:=KR.out.cell 4
     have z5:=KR.out.cell 5
     have z6:=KR.out.cell 6
     simp at z0 z1 z2 z3 z4 z5 z6
     have ne1:w.heap.size≠u2.heap.size:=by have:=S0.out;have:=S1.out;have:=S2.out;omega
     have ne2:u2.heap.size≠w.heap.size:=fun e=>ne1 e.symm
     go_wp2
     refine bodyPost_ret (by simp [*,results,Tryz.results102,go_sem];try rfl) rfl ?_
     have key:∀w9,Chg [u2.heap.size,w.heap.size] wr w9→wr.heap.size=w9.heap.size→Chg [b] w w9→CellPost w0 w b lt (.returned (.agg #[.string name,.int .i64 1,.slice A2 (xs.length+1) c2,.slice A3 ax.length c3,.slice At truth.length ct,.int .i64 lk,.int .i64 en])) w9:=fun w9 c9 e9 h9=>by
      obtain ⟨⟨ass,ar⟩,hs,hc⟩:=ST.out
      have q1:=S0.out
      have q2:=S1.out
      have q3:=S2.out
      have q4:=za.out
      have q5:=QC.out
      have q6:=HM.out
      have q7:=KM.out
      have q8:=PL.out
      have q9:=hc.size
      have kp:=PW.out.chg c9 (fun g hg=>by simp at hg;omega) (fun w' es x b h g=>h.same g)
      have ka:=ar.chg c9 (fun g hg=>by simp at hg;omega) (fun w' es x b h g=>h.same g)
      have kt:=ownsRow_chg TR.out h9 TB.out
      refine ⟨_,_,_,⟨name,1,ps,ax,truth,lk,en⟩,_,rfl,⟨_,_,_,pss,ass,rfl,kp.base (Nat.zero_le _),ka.base (Nat.zero_le _),ownsRow_base kt (Nat.zero_le _),rfl,⟨hz,⟨by show 2≤ps.length;omega,by show ps.length≤5;omega⟩,⟨A1,al8⟩,hl8⟩⟩,?_,hs.chg c9 (by have:=hbw.out;simp;omega) (fun g hg=>by have:=HG.out;simp at hg;omega),h9⟩
      refine (own_val TR.out).append ((PC.out.own.append ar.own (m:=uc.heap.size) (by omega) (by omega)).mono (lo':=w.heap.size) (by omega) (Nat.le_of_eq e9)) hlt (by omega)
     refine key _ ?_ ?_ ?_
     ·repeat (first|refine Chg.setCell ?_ (by simp) _|with_reducible exact Chg.refl _ _)
     ·simp [World.setCell]
     ·repeat (first|refine Chg.setNew ?_ (by first|exact UW.out|simp) _|with_reducible exact CW.out)
end Go.Proofs.YtlnpefiipdkafaaGreatDoor
/-
  A drawn flop or latch.
-/
namespace Go.Proofs.YtlnpefiipdkafaaGreatDoor
open Go.RowKit
set_option maxHeartbeats 16000000 in
set_option maxRecDepth 10000 in
theorem l03DrawFlop_any {w0 w:World} {b:Nat} {name:ByteArray} {kind edge:Int} (h:SrcAt w0 w b) (hz:name.size≤8) :
  Calls Tryz.prog 103 #[.pointer (some ⟨b,0,none⟩),.string name,.int .i64 kind,.int .i64 edge] w (CellPost w0 w b w.heap.size):=by
 have hbw:Hid (b<w.heap.size):=hideIt h.ge.2.2
 have HG:Hid (w0.heap.size≤w.heap.size):=hideIt h.ge.2.1.size
 obtain ⟨iA,hiA,hzA,hsA,hbA⟩:=info_two info_Arc bytes_Arc
 have HS:=hideIt (h.alloc (.cells #[.string .empty,.int .i64 0,.slice none 0 0,.slice none 0 0,.slice none 0 0,.int .i64 0,.int .i64 0] 112))
 have HC:Hid (Chg [b] w (w.alloc (.cells #[.string .empty,.int .i64 0,.slice none 0 0,.slice none 0 0,.slice none 0 0,.int .i64 0,.int .i64 0] 112))):=hideIt ((Chg.refl _ _).alloc _)
 have R:Hid (Blk (w.alloc (.cells #[.string .empty,.int .i64 0,.slice none 0 0,.slice none 0 0,.slice none 0 0,.int .i64 0,.int .i64 0] 112)) w.heap.size 112 #[.string .empty,.int .i64 0,.slice none 0 0,.slice none 0 0,.slice none 0 0,.int .i64 0,.int .i64 0]):=hideIt (Blk.new w _ _)
 have NR:Hid (w.heap.size∉[b]):=hideIt (by have:=hbw.out;simp;omega)
 clear h
 go_enter Tryz.func103,Tryz.ntmps103
 go_wp2_with fail
 refine (l01Next_any (w0:=w0) 50 HS.out).mono ?_
 rintro e u1 ⟨lk,rfl,lka,lkb,h_,c_⟩
 have S1:Hid (w.heap.size+1≤u1.heap.size):=hideIt (by simpa using c_.size)
 replace HS:=hideIt h_
 replace HC:=hideIt (HC.out.trans c_)
 replace R:=hideIt (R.out.chg c_ NR.out)
 have lkc:=lkb (by omega)
 clear h_ c_ lkb
 go_wp2_with fail
 refine (l01Next_any (w0:=w0) 80 HS.out).mono ?_
 rintro e u2 ⟨en,rfl,ena,enb,h_,c_⟩
 have S2:Hid (u1.heap.size≤u2.heap.size):=hideIt (by simpa using c_.size)
 replace HS:=hideIt h_
 replace HC:=hideIt (HC.out.trans c_)
 replace R:=hideIt (R.out.chg c_ NR.out)
 have enc:=enb (by omega)
 clear h_ c_ enb
 obtain ⟨ua,hua⟩:∃ua,ua=u2.alloc (.cells #[.string name,.int .i64 kind,.slice none 0 0,.slice none 0 0,.slice none 0 0,.int .i64 lk,.int .i64 en] 112):=⟨_,rfl⟩
 have za:Hid (u2.heap.size+1=ua.heap.size):=hideIt (by rw [hua];simp)
 have KB:Hid (Blk ua u2.heap.size 112 #[.string name,.int .i64 kind,.slice none 0 0,.slice none 0 0,.slice none 0 0,.int .i64 lk,.int .i64 en]):=hideIt (by rw [hua];exact Blk.new _ _ _)
 have NB:Hid (u2.heap.size∉[b]):=hideIt (by have:=hbw.out;have:=S1.out;have:=S2.out;simp;omega)
 replace HS:Hid (SrcAt w0 ua b):=hideIt (by rw [hua];exact HS.out.alloc _)
 replace HC:Hid (Chg [b] w ua):=hideIt (by rw [hua];exact HC.out.alloc _)
 replace R:Hid (Blk ua w.heap.size 112 #[.string .empty,.int .i64 0,.slice none 0 0,.slice none 0 0,.slice none 0 0,.int .i64 0,.int .i64 0]):=hideIt (by rw [hua];exact R.out.grows ((Grows.refl _).alloc _))
 have HU:=hideIt hua
 clear hua
 go_wp2_with fail
 refine at_w (fun u=>u=ua) HU.out.symm (fun u hu=>?_)
 subst hu
 refine (l01Next_any (w0:=w0) 9 HS.out).mono ?_
 rintro e u3 ⟨c1,rfl,c1a,c1b,h_,c_⟩
 have S3:Hid (u.heap.size≤u3.heap.size):=hideIt c_.size
 replace HS:=hideIt h_
 replace HC:=hideIt (HC.out.trans c_)
 replace R:=hideIt (R.out.chg c_ NR.out)
 replace KB:=hideIt (KB.out.chg c_ NB.out)
 have c1c:=c1b (by omega)
 have ew1:IntKind.i64.wrap (1+c1)=1+c1:=IntWalk.i64_in _ (by omega)
 clear h_ c_ c1b
 go_wp2_with fail
 refine (l01Next_any (w0:=w0) 9 HS.out).mono ?_
 rintro e u4 ⟨c2,rfl,c2a,c2b,h_,c_⟩
 have S4:Hid (u3.heap.size≤u4.heap.size):=hideIt c_.size
 replace HS:=hideIt h_
 replace HC:=hideIt (HC.out.trans c_)
 replace R:=hideIt (R.out.chg c_ NR.out)
 replace KB:=hideIt (KB.out.chg c_ NB.out)
 have c2c:=c2b (by omega)
 have ew2:IntKind.i64.wrap (1+c2)=1+c2:=IntWalk.i64_in _ (by omega)
 clear h_ c_ c2b
 have fR:=KB.out.frozen
 have lR:=KB.out.lt
 have k0:=KB.out.cell 0
 have k1:=KB.out.cell 1
 have k2:=KB.out.cell 2
 have k3:=KB.out.cell 3
 have k4:=KB.out.cell 4
 have k5:=KB.out.cell 5
 have k6:=KB.out.cell 6
 simp at k0 k1 k2 k3 k4 k5 k6
 go_wp2_with fail
 obtain ⟨ps,hps⟩:∃ps:List PinD,ps=[⟨⟨#[100]⟩,1,1+c1,false⟩,⟨⟨#[99,107]⟩,1,1+c2,true⟩,⟨⟨#[113]⟩,2,0,false⟩]:=⟨_,rfl⟩
 have PL:Hid (ps.length=3):=hideIt (by rw [hps];rfl)
 obtain ⟨uc,huc⟩:∃uc,uc=(u4.setCell ⟨u2.heap.size,2,none⟩ (.slice (some ⟨u4.heap.size,0,none⟩) 3 3)).alloc (.cells #[.string ⟨#[100]⟩,.int .i64 1,.int .i64 (1+c1),.bool false,.string ⟨#[99,107]⟩,.int .i64 1,.int .i64 (1+c2),.bool true,.string ⟨#[113]⟩,.int .i64 2,.int .i64 0,.bool false] 125):=⟨_,rfl⟩
 have zs:(u4.setCell ⟨u2.heap.size,2,none⟩ (.slice (some ⟨u4.heap.size,0,none⟩) 3 3)).heap.size=u4.heap.size:=by simp [World.setCell]
 have zc:Hid (u4.heap.size+1=uc.heap.size):=hideIt (by rw [huc];simp [World.setCell])
 have cu:Chg [u2.heap.size] u4 uc:=by rw [huc];exact ((Chg.refl _ _).setCell (by simp) _).alloc _
 have UW:Hid (w.heap.size<u2.heap.size):=hideIt (by have:=S1.out;have:=S2.out;omega)
 have UC:Hid (Blk uc u2.heap.size 112 #[.string name,.int .i64 kind,.slice (some ⟨u4.heap.size,0,none⟩) 3 3,.slice none 0 0,.slice none 0 0,.int .i64 lk,.int .i64 en]):=hideIt (by rw [huc];exact (KB.out.setE (i:=2) rfl).grows ((Grows.refl _).alloc _))
 have RC:Hid (Blk uc w.heap.size 112 #[.string .empty,.int .i64 0,.slice none 0 0,.slice none 0 0,.slice none 0 0,.int .i64 0,.int .i64 0]):=hideIt (R.out.chg cu (by have:=UW.out;simp;omega))
 have CU:Hid (Chg [b] w uc):=hideIt (by rw [huc];exact (HC.out.setNew (Nat.le_of_lt UW.out) _).alloc _)
 have SU:Hid (SrcAt w0 uc b):=hideIt (HS.out.chg cu (by have:=NB.out;simp at this ⊢;omega) (fun g hg=>by simp at hg;have:=UW.out;have:=HG.out;omega))
 have pc:ORow 4 125 OPinB u.heap.size uc (.slice (some ⟨u4.heap.size,0,none⟩) 3 3) ps [[],[],[]]:=by
  have h:=ORow.lit (sz:=4) (t:=125) (O:=OPinB) (lo:=u.heap.size) (w:=u4.setCell ⟨u2.heap.size,2,none⟩ (.slice (some ⟨u4.heap.size,0,none⟩) 3 3)) (xs:=ps) (bss:=[[],[],[]]) (cs:=#[.string ⟨#[100]⟩,.int .i64 1,.int .i64 (1+c1),.bool false,.string ⟨#[99,107]⟩,.int .i64 1,.int .i64 (1+c2),.bool true,.string ⟨#[113]⟩,.int .i64 2,.int .i64 0,.bool false]) (by
   rw [hps]
   exact Els.cons (es:=[_,_,_,_]) rfl ⟨⟨rfl,by dsimp only;decide,rfl⟩,by dsimp only;decide⟩ (Els.cons (es:=[_,_,_,_]) rfl ⟨⟨rfl,by dsimp only;decide,rfl⟩,by dsimp only;decide⟩ (Els.cons (es:=[_,_,_,_]) rfl ⟨⟨rfl,by dsimp only;decide,rfl⟩,by dsimp only;decide⟩ Els.nil))) (by rw [PL.out];unfold maxLen;omega) (by have:=S3.out;have:=S4.out;rw [zs];omega) Own.nil
  rw [PL.out,zs] at h
  rw [huc]
  exact h
 have PC:=hideIt pc
 have QC:Hid (u.heap.size≤uc.heap.size∧b<uc.heap.size∧b<u.heap.size):=hideIt (by have:=hbw.out;have:=UW.out;have:=S3.out;have:=S4.out;have:=zc.out;have:=za.out;omega)
 refine at_w (fun u=>u=uc) huc.symm (fun ud hu=>?_)
 have HX:Hid (ud=uc):=hideIt hu
 clear hu huc zs hps cu pc k0 k1 k2 k3 k4 k5 k6 fR lR KB HS HC R
 have key:Hid (∀(A3:Option Addr) (c3:Nat) (ax:List ArcD) (wr w9:World),Hid (RowSt 6 134 OArcB w0 uc b (.slice A3 ax.length c3) ax wr)→1≤ax.length→ax.length≤8→Chg [u2.heap.size,w.heap.size] wr w9→wr.heap.size=w9.heap.size→Chg [b] w w9 →
   CellPost w0 w b w.heap.size (.returned (.agg #[.string name,.int .i64 kind,.slice (some ⟨u4.heap.size,0,none⟩) 3 3,.slice A3 ax.length c3,.slice none 0 0,.int .i64 lk,.int .i64 en])) w9):=hideIt (fun A3 c3 ax wr w9 ST A1 al8 c9 e9 h9=>by
  obtain ⟨⟨ass,ar⟩,hs,hc⟩:=ST.out
  have q1:=UW.out
  have q4:=za.out
  have q5:=QC.out
  have q8:=PL.out
  have q9:=hc.size
  have kp:=(PC.out.chg hc (fun g hg=>by simp at hg;omega) (fun w' es x b h g=>h.same g)).chg c9 (fun g hg=>by simp at hg;omega) (fun w' es x b h g=>h.same g)
  have ka:=ar.chg c9 (fun g hg=>by simp at hg;omega) (fun w' es x b h g=>h.same g)
  refine ⟨_,_,_,⟨name,kind,ps,ax,[],lk,en⟩,_,rfl,⟨_,_,_,_,ass,rfl,kp.base (Nat.zero_le _),ka.base (Nat.zero_le _),⟨rfl,.inl ⟨rfl,rfl⟩⟩,rfl,⟨hz,⟨by show 2≤ps.length;omega,by show ps.length≤5;omega⟩,⟨A1,al8⟩,by simp⟩⟩,?_,hs.chg c9 (by have:=hbw.out;simp;omega) (fun g hg=>by have:=HG.out;simp at hg;omega),h9⟩
  exact (PC.out.own.append ar.own (m:=uc.heap.size) (by omega) (by omega)).mono (by omega) (Nat.le_of_eq e9))
 rw [HX.out]
 clear HX
 refine (l03DrawArc_any (w0:=w0) _ _ _ _ SU.out).mono ?_
 rintro e v1 ⟨g1,n1,A1,m1,sn1,ts1,ss1,bs1,rfl,oa,tl,sl,sm1,sm2,ow,hs,hc⟩
 have OA1:Hid (OArcB v1 [.int .i64 edge,.int .i64 1,.int .i64 2,.int .i64 sn1,.slice (some ⟨g1,0,none⟩) 2 n1,.slice A1 ss1.length m1] ⟨edge,1,2,sn1,ts1,ss1⟩ bs1):=hideIt ⟨oa,tl,sl,sm1,sm2⟩
 have OW1:=hideIt ow
 have V1:=hideIt hs
 have D1:=hideIt hc
 clear oa tl sl sm1 sm2 ow hs hc
 go_wp2_with fail
 refine (l03DrawArc_any (w0:=w0) _ _ _ _ V1.out).mono ?_
 rintro e v2 ⟨g2,n2,A2,m2,sn2,ts2,ss2,bs2,rfl,oa,tl,sl,sm1,sm2,ow,hs,hc⟩
 have OA2:Hid (OArcB v2 [.int .i64 4,.int .i64 1,.int .i64 0,.int .i64 sn2,.slice (some ⟨g2,0,none⟩) 2 n2,.slice A2 ss2.length m2] ⟨4,1,0,sn2,ts2,ss2⟩ bs2):=hideIt ⟨oa,tl,sl,sm1,sm2⟩
 have OW2:=hideIt ow
 have V2:=hideIt hs
 have D2:=hideIt hc
 clear oa tl sl sm1 sm2 ow hs hc
 go_wp2_with fail
 refine (l03DrawArc_any (w0:=w0) _ _ _ _ V2.out).mono ?_
 rintro e v3 ⟨g3,n3,A3,m3,sn3,ts3,ss3,bs3,rfl,oa,tl,sl,sm1,sm2,ow,hs,hc⟩
 have OA3:Hid (OArcB v3 [.int .i64 5,.int .i64 1,.int .i64 0,.int .i64 sn3,.slice (some ⟨g3,0,none⟩) 2 n3,.slice A3 ss3.length m3] ⟨5,1,0,sn3,ts3,ss3⟩ bs3):=hideIt ⟨oa,tl,sl,sm1,sm2⟩
 have OW3:=hideIt ow
 have V3:=hideIt hs
 have D3:=hideIt hc
 clear oa tl sl sm1 sm2 ow hs hc
 have T3:Hid (Chg [b] uc v3):=hideIt ((D1.out.trans D2.out).trans D3.out)
 have ST:Hid (RowSt 6 134 OArcB w0 uc b (.slice (some ⟨v3.heap.size,0,none⟩) 3 3) ([⟨edge,1,2,sn1,ts1,ss1⟩,⟨4,1,0,sn2,ts2,ss2⟩,⟨5,1,0,sn3,ts3,ss3⟩]:List ArcD) (v3.alloc (.cells #[.int .i64 edge,.int .i64 1,.int .i64 2,.int .i64 sn1,.slice (some ⟨g1,0,none⟩) 2 n1,.slice A1 ss1.length m1,.int .i64 4,.int .i64 1,.int .i64 0,.int .i64 sn2,.slice (some ⟨g2,0,none⟩) 2 n2,.slice A2 ss2.length m2,.int .i64 5,.int .i64 1,.int .i64 0,.int .i64 sn3,.slice (some ⟨g3,0,none⟩) 2 n3,.slice A3 ss3.length m3] 134))):=hideIt ⟨⟨[bs1,bs2,bs3],ORow.lit (cs:=#[.int .i64 edge,.int .i64 1,.int .i64 2,.int .i64 sn1,.slice (some ⟨g1,0,none⟩) 2 n1,.slice A1 ss1.length m1,.int .i64 4,.int .i64 1,.int .i64 0,.int .i64 sn2,.slice (some ⟨g2,0,none⟩) 2 n2,.slice A2 ss2.length m2,.int .i64 5,.int .i64 1,.int .i64 0,.int .i64 sn3,.slice (some ⟨g3,0,none⟩) 2 n3,.slice A3 ss3.length m3]) (xs:=[⟨edge,1,2,sn1,ts1,ss1⟩,⟨4,1,0,sn2,ts2,ss2⟩,⟨5,1,0,sn3,ts3,ss3⟩]) (Els.cons (es:=[_,_,_,_,_,_]) rfl (OArcB.same OA1.out (Chg.same ((D2.out.trans D3.out).alloc _) (OArcB.lt OA1.out) (fun g hg=>by have:=OW1.out.2 g hg;have:=QC.out;have:=D1.out.size;have:=D2.out.size;have:=D3.out.size;simp;omega))) (Els.cons (es:=[_,_,_,_,_,_]) rfl (OArcB.same OA2.out (Chg.same (D3.out.alloc _) (OArcB.lt OA2.out) (fun g hg=>by have:=OW2.out.2 g hg;have:=QC.out;have:=D1.out.size;have:=D2.out.size;have:=D3.out.size;simp;omega))) (Els.cons (es:=[_,_,_,_,_,_]) rfl (OArcB.same OA3.out (Chg.same ((Chg.refl [b] _).alloc _) (OArcB.lt OA3.out) (fun g hg=>by have:=OW3.out.2 g hg;have:=QC.out;have:=D1.out.size;have:=D2.out.size;have:=D3.out.size;simp;omega))) Els.nil))) (by show 3≤maxLen;decide) (by have:=T3.out.size;omega) (by
  have:=D1.out.size
  have:=D2.out.size
  have:=D3.out.size
  have q:=OW1.out.append (OW2.out.append OW3.out (by omega) (by omega)) (by omega) (by omega)
  simpa using q)⟩,V3.out.alloc _,T3.out.alloc _⟩
 have NE:Hid (b<uc.heap.size):=hideIt QC.out.2.1
 clear OA1 OA2 OA3 OW1 OW2 OW3 V1 V2 D1 D2 D3 V3 SU
 go_upto_region 4 with fail
 refine at_c (fun u=>RowSt 6 134 OArcB w0 uc b (.slice (some ⟨v3.heap.size,0,none⟩) 3 3) ([⟨edge,1,2,sn1,ts1,ss1⟩,⟨4,1,0,sn2,ts2,ss2⟩,⟨5,1,0,sn3,ts3,ss3⟩]:List ArcD) u) ST.out (fun v4 hv=>?_)
 have ST4:=hideIt hv
 clear hv ST T3
 by_cases hk:kind=3
 ·subst hk
  go_wp2_with fail
  refine (l03DrawArc_any (w0:=w0) _ _ _ _ ST4.out.2.1).mono ?_
  rintro e v5 ⟨g4,n4,A4,m4,sn4,ts4,ss4,bs4,rfl,oa,tl,sl,sm1,sm2,ow,hs,hc⟩
  have OA4:Hid (OArcB v5 [.int .i64 1,.int .i64 0,.int .i64 2,.int .i64 sn4,.slice (some ⟨g4,0,none⟩) 2 n4,.slice A4 ss4.length m4] ⟨1,0,2,sn4,ts4,ss4⟩ bs4):=hideIt ⟨oa,tl,sl,sm1,sm2⟩
  have OW4:=hideIt ow
  have V5:=hideIt hs
  have D5:=hideIt hc
  clear oa tl sl sm1 sm2 ow hs hc
  go_wp2_with (at_builtin;go_loud (refine wpList_append_st rfl _ _ 110 rfl Tryz.underlying110 hiA hzA hsA hbA rfl (by decide) rfl ST4.out NE.out (fun _ _ _ _ _ h g=>h.same g) (D5.out.alloc _) (V5.out.alloc _) ⟨v5.heap.size,0,none⟩ 1 [.int .i64 1,.int .i64 0,.int .i64 2,.int .i64 sn4,.slice (some ⟨g4,0,none⟩) 2 n4,.slice A4 ss4.length m4] ⟨1,0,2,sn4,ts4,ss4⟩ bs4 rfl rfl (cells_new _ _ _) (by intro u hu;simp at hu;rcases hu with rfl|rfl|rfl|rfl|rfl|rfl<;>rfl) (by simp) (OArcB.same OA4.out ((SameOn.refl _ _).grows (OArcB.lt OA4.out) ((Grows.refl _).alloc _))) (OW4.out.mono (Nat.le_refl _) (by simp)) ?_))
  intro v' w8 r1 r2
  obtain ⟨A9,c9,ev⟩:=r1.slice
  have ev2:v'=.slice A9 4 c9:=ev
  clear ev
  subst ev2
  have ST8:=hideIt r1
  have CW:Hid (Chg [b] w w8):=hideIt (CU.out.trans r1.2.2)
  clear r1 r2 OA4 OW4 V5 D5 ST4
  have KC:=hideIt (UC.out.chg ST8.out.2.2 NB.out)
  have KR:=hideIt (RC.out.chg ST8.out.2.2 NR.out)
  have fR:=KC.out.frozen
  have lR:=KC.out.lt
  have fR2:=KR.out.frozen
  have lR2:=KR.out.lt
  have k0:=KC.out.cell 0
  have k1:=KC.out.cell 1
  have k2:=KC.out.cell 2
  have k3:=KC.out.cell 3
  have k4:=KC.out.cell 4
  have k5:=KC.out.cell 5
  have k6:=KC.out.cell 6
  simp at k0 k1 k2 k3 k4 k5 k6
  have z0:=KR.out.cell 0
  have z1:=KR.out.cell 1
  have z2:=KR.out.cell 2
  have z3:=KR.out.cell 3
  have z4:=KR.out.cell 4
  have z5:=KR.out.cell 5
  have z6:=KR.out.cell 6
  simp at z0 z1 z2 z3 z4 z5 z6
  have ne1:w.heap.size≠u2.heap.size:=by have:=UW.out;omega
  have ne2:u2.heap.size≠w.heap.size:=fun e=>ne1 e.symm
  go_wp2
  refine bodyPost_ret (by simp [*,results,Tryz.results103,go_sem];try rfl) rfl ?_
  refine key.out A9 c9 (([⟨edge,1,2,sn1,ts1,ss1⟩,⟨4,1,0,sn2,ts2,ss2⟩,⟨5,1,0,sn3,ts3,ss3⟩]:List ArcD)++[(⟨1,0,2,sn4,ts4,ss4⟩:ArcD)]:List ArcD) w8 _ ST8 (by simp) (by simp) ?_ ?_ ?_
  ·repeat (first|refine Chg.setCell ?_ (by simp) _|with_reducible exact Chg.refl _ _)
  ·simp [World.setCell]
  ·repeat (first|refine Chg.setNew ?_ (by first|exact Nat.le_of_lt UW.out|simp) _|with_reducible exact CW.out)
 ·have hk2:(kind==3)=false:=by simpa using hk
  have CW:Hid (Chg [b] w v4):=hideIt (CU.out.trans ST4.out.2.2)
  have KC:=hideIt (UC.out.chg ST4.out.2.2 NB.out)
  have KR:=hideIt (RC.out.chg ST4.out.2.2 NR.out)
  have fR:=KC.out.frozen
  have lR:=KC.out.lt
  have fR2:=KR.out.frozen
  have lR2:=KR.out.lt
  have k0:=KC.out.cell 0
  have k1:=KC.out.cell 1
  have k2:=KC.out.cell 2
  have k3:=KC.out.cell 3
  have k4:=KC.out.cell 4
  have k5:=KC.out.cell 5
  have k6:=KC.out.cell 6
  simp at k0 k1 k2 k3 k4 k5 k6
  have z0:=KR.out.cell 0
  have z1:=KR.out.cell 1
  have z2:=KR.out.cell 2
  have z3:=KR.out.cell 3
  have z4:=KR.out.cell 4
  have z5:=KR.out.cell 5
  have z6:=KR.out.cell 6
  simp at z0 z1 z2 z3 z4 z5 z6
  have ne1:w.heap.size≠u2.heap.size:=by have:=UW.out;omega
  have ne2:u2.heap.size≠w.heap.size:=fun e=>ne1 e.symm
  go_wp2
  refine bodyPost_ret (by simp [*,results,Tryz.results103,go_sem];try rfl) rfl ?_
  refine key.out _ _ [⟨edge,1,2,sn1,ts1,ss1⟩,⟨4,1,0,sn2,ts2,ss2⟩,⟨5,1,0,sn3,ts3,ss3⟩] v4 _ ST4 (by simp) (by simp) ?_ ?_ ?_
  ·repeat (first|refine Chg.setCell ?_ (by simp) _|with_reducible exact Chg.refl _ _)
  ·simp [World.setCell]
  ·repeat (first|refine Chg.setNew ?_ (by first|exact Nat.le_of_lt UW.out|simp) _|with_reducible exact CW.out)
end Go.Proofs.YtlnpefiipdkafaaGreatDoor
/-
  The drawn library of eight cells.
-/
namespace Go.Proofs.YtlnpefiipdkafaaGreatDoor
open Go.RowKit
theorem SameOn.size_lt {bs:List Nat} {w w':World} (g:SameOn bs w w') {q:Nat} (hq:q∈bs) (hl:q<w.heap.size):q<w'.heap.size:=by
 have h:=g q hq
 rw [Array.getElem?_eq_getElem hl] at h
 exact (Array.getElem?_eq_some_iff.1 h).1
theorem ORow.keep {α:Type} {sz:Nat} {t:TypeId} {O:World→List Value→α→List Nat→Prop} {lo:Nat} {w w':World} {v:Value} {xs:List α} {bss:List (List Nat)} (h:ORow sz t O lo w v xs bss) (g:SameOn (v.ownBlock.toList++bss.flatten) w w') (hO:∀es x b,O w es x b→SameOn b w w'→O w' es x b):ORow sz t O lo w' v xs bss:=by
 obtain ⟨cells,h1,h2,h3⟩:=h
 exact ⟨cells,ownsRow_same h1 (g.sub fun _ hq=>List.mem_append_left _ hq),h2.mono fun es x b hb ho=>hO _ _ _ ho (g.sub fun q hq=>List.mem_append_right _ (List.mem_flatten.2 ⟨b,hb,hq⟩)),h3.1,fun q hq=>⟨(h3.2 q hq).1,g.size_lt hq (h3.2 q hq).2⟩⟩
theorem OCellB.keep {w w':World} {es:List Value} {x:CellD} {bs:List Nat} (h:OCellB w es x bs) (g:SameOn bs w w'):OCellB w' es x bs:=by
 obtain ⟨vp,va,vt,pss,ass,e,hp,ha,ht,rfl,hb⟩:=h
 exact ⟨vp,va,vt,pss,ass,e,hp.keep (g.sub fun _ hq=>List.mem_append_right _ (List.mem_append_left _ hq)) (fun _ _ _ h g=>h.same g),ha.keep (g.sub fun _ hq=>List.mem_append_right _ (List.mem_append_right _ hq)) (fun _ _ _ h g=>h.same g),ownsRow_same ht (g.sub fun _ hq=>List.mem_append_left _ hq),rfl,hb⟩
theorem OCellB.slices {w:World} {s k vp va vt l n:Value} {x:CellD} {bs:List Nat} (h:OCellB w [s,k,vp,va,vt,l,n] x bs):∃(A1:Option Addr) (n1:Nat) (A2:Option Addr) (n2:Nat) (A3:Option Addr) (n3:Nat),vp=.slice A1 x.pins.length n1∧va=.slice A2 x.arcs.length n2∧vt=.slice A3 x.truth.length n3:=by
 obtain ⟨p,a,t,pss,ass,e,hp,ha,ht,-,-⟩:=h
 injection e with _ e
 injection e with _ e
 injection e with e1 e
 injection e with e2 e
 injection e with e3 e
 subst e1 e2 e3
 obtain ⟨A1,n1,h1⟩:=hp.slice
 obtain ⟨A2,n2,h2⟩:=ha.slice
 obtain ⟨A3,n3,h3⟩:=own_slice ht
 exact ⟨A1,n1,A2,n2,A3,n3,h1,h2,h3⟩
/-- boxes and drawn cells, all made behind w -/
def Boxes (w0 w:World) (b base:Nat) (bx:List (Nat×TypeId×Array Value)) (cs:List (List Value×CellD×List Nat)) (u:World):Prop :=
 SrcAt w0 u b∧Chg [b] w u∧(∀q∈bx,Blk u q.1 q.2.1 q.2.2∧w.heap.size≤q.1)∧(∀c∈cs,OCellB u c.1 c.2.1 c.2.2)∧Own base u.heap.size (cs.map (·.2.2)).flatten∧w.heap.size≤base∧base≤u.heap.size
section
variable {w0 w u u':World} {b base:Nat} {bx:List (Nat×TypeId×Array Value)} {cs:List (List Value×CellD×List Nat)}
theorem Boxes.start (h:SrcAt w0 w b):Boxes w0 w b w.heap.size [] [] w:=⟨h,Chg.refl _ _,(fun _ h=>nomatch h),(fun _ h=>nomatch h),Own.nil,Nat.le_refl _,Nat.le_refl _⟩
theorem Boxes.rebase (h:Boxes w0 w b base bx [] u):Boxes w0 w b u.heap.size bx [] u:=⟨h.1,h.2.1,h.2.2.1,(fun _ h=>nomatch h),Own.nil,h.2.1.size,Nat.le_refl _⟩
theorem Boxes.next (h:Boxes w0 w b base bx cs u) (hb:b<w.heap.size) (c:Chg [b] u u') (s:SrcAt w0 u' b):Boxes w0 w b base bx cs u':=by
 obtain ⟨h1,h2,h3,h4,h5,h6,h7⟩:=h
 refine ⟨s,h2.trans c,fun q hq=>⟨(h3 q hq).1.chg c (by have:=(h3 q hq).2;simp;omega),(h3 q hq).2⟩,fun d hd=>(h4 d hd).keep (c.same (h4 d hd).lt fun g hg=>?_),h5.mono (Nat.le_refl _) c.size,h6,Nat.le_trans h7 c.size⟩
 have:=h5.2 g (List.mem_flatten.2 ⟨_,List.mem_map.2 ⟨d,hd,rfl⟩,hg⟩)
 simp;omega
theorem Boxes.box (h:Boxes w0 w b base bx cs u) (hb:b<w.heap.size) (t:TypeId) (a:Array Value):Boxes w0 w b base (bx++[(u.heap.size,t,a)]) cs (u.alloc (.cells a t)):=by
 have h':=h.next hb ((Chg.refl _ _).alloc (.cells a t)) (h.1.alloc _)
 refine ⟨h'.1,h'.2.1,fun q hq=>?_,h'.2.2.2⟩
 rcases List.mem_append.1 hq with hq|hq
 ·exact h'.2.2.1 q hq
 ·simp at hq
  subst hq
  exact ⟨Blk.new _ _ _,h.2.1.size⟩
theorem Boxes.cell {e:Ending} {w':World} {lo:Nat} (h:Boxes w0 w b base bx cs u) (hb:b<w.heap.size) (g:Grows u u') (hlo:u.heap.size≤lo) (hp:CellPost w0 u' b lo e w') :
  ∃(A1:Option Addr) (n1:Nat) (A2:Option Addr) (n2:Nat) (A3:Option Addr) (n3:Nat) (x:CellD) (bs:List Nat),e=.returned (.agg #[.string x.name,.int .i64 x.kind,.slice A1 x.pins.length n1,.slice A2 x.arcs.length n2,.slice A3 x.truth.length n3,.int .i64 x.leak,.int .i64 x.energy]) ∧
   Hid (Boxes w0 w b base bx (cs++[([.string x.name,.int .i64 x.kind,.slice A1 x.pins.length n1,.slice A2 x.arcs.length n2,.slice A3 x.truth.length n3,.int .i64 x.leak,.int .i64 x.energy],x,bs)]) w'):=by
 obtain ⟨vp,va,vt,x,bs,rfl,ho,hw,hs,hc⟩:=hp
 obtain ⟨A1,n1,A2,n2,A3,n3,rfl,rfl,rfl⟩:=ho.slices
 have h':=(h.next hb (Chg.of_grows g) (h.1.grows g)).next hb hc hs
 refine ⟨A1,n1,A2,n2,A3,n3,x,bs,rfl,hideIt ⟨h'.1,h'.2.1,h'.2.2.1,fun d hd=>?_,?_,h'.2.2.2.2.2⟩⟩
 ·rcases List.mem_append.1 hd with hd|hd
  ·exact h'.2.2.2.1 d hd
  ·simp at hd
   subst hd
   exact ho
 ·rw [List.map_append,List.flatten_append]
  simp only [List.map_cons,List.map_nil,List.flatten_cons,List.flatten_nil,List.append_nil]
  have hq:=h.2.2.2.2.1
  have hsz:=hc.size
  have hsz2:=g.size
  have hsz3:=h.2.2.2.2.2.2
  refine ⟨List.nodup_append.2 ⟨hq.1,hw.1,fun a ha c hc e=>?_⟩,fun g hg=>?_⟩
  ·have:=hq.2 a ha
   have:=hw.2 c hc
   omega
  ·rcases List.mem_append.1 hg with hg|hg
   ·have:=hq.2 g hg
    omega
   ·have:=hw.2 g hg
    omega
end
def gateOk (t:List Int) (p:Nat):Bool:=decide (t.length≤16)&&t.all (fun v=>v==0||v==1)&&(List.range t.length).all (fun i=>i.testBit p||decide (i+2 ^ p<t.length))&&decide (p≤3)
theorem gateOk_ok {t:List Int} {p:Nat} (h:gateOk t p=true):GateT t p:=by
 unfold gateOk at h
 simp only [Bool.and_eq_true,decide_eq_true_eq,List.all_eq_true,Bool.or_eq_true,beq_iff_eq,List.mem_range] at h
 obtain ⟨⟨⟨h1,h2⟩,h3⟩,h4⟩:=h
 refine ⟨h1,fun i v hv=>h2 v (List.mem_of_getElem? hv),fun i hi hb=>?_,h4⟩
 rcases h3 i hi with h|h
 ·rw [hb] at h;cases h
 ·exact h
/-- the drawn library: eight cells, all of their memory their own -/
def LibPost (w0 w:World) (b:Nat) (e:Ending) (w':World):Prop :=
 ∃(g n:Nat) (xs:List CellD) (bs:List Nat),e=.returned (.agg #[.slice (some ⟨g,0,none⟩) 8 n])∧xs.length=8∧OList 7 112 OCellB w' (.slice (some ⟨g,0,none⟩) 8 n) xs bs∧Own w.heap.size w'.heap.size bs∧SrcAt w0 w' b∧Chg [b] w w'
theorem l03Gate_at {w0 v:World} {b g m k:Nat} {name:ByteArray} {cs:Array Value} (truth:List Int) (h:SrcAt w0 v b) (hg:g=v.heap.size) (hz:name.size≤8) (hm:1≤m∧m≤3) (hk:k=truth.length) (hcs:cs.toList=truth.map (Value.int .i64)) (hl:truth.length=2 ^ m) (hG:(List.range m).all (gateOk truth)=true) (hS:(List.range m).any (fun p=>senN truth p != 0)=true) :
  Calls Tryz.prog 102 #[.pointer (some ⟨b,0,none⟩),.string name,.slice (some ⟨g,0,none⟩) k k] (v.alloc (.cells cs 2)) (CellPost w0 (v.alloc (.cells cs 2)) b v.heap.size):=by
 subst hg hk
 have hlen:cs.size=truth.length:=by have:=congrArg List.length hcs;simpa using this
 have h8:truth.length≤maxLen:=by rw [hl];exact Nat.le_trans (Nat.pow_le_pow_right (n:=2) (by decide) hm.2) (by decide)
 have hrow:=World.ownsRow_lit (e:=2) (size:=1) (base:=v.heap.size) v cs truth.length (Nat.le_refl _) h8 (by rw [hlen];omega)
 rw [hcs] at hrow
 rw [List.all_eq_true] at hG
 rw [List.any_eq_true] at hS
 refine l03Gate_any (m:=m) (h.alloc _) hrow h.ge.2.2 (by simp) hz hm hl (fun p hp=>gateOk_ok (hG p (List.mem_range.2 hp))) ?_
 obtain ⟨p,hp,hs⟩:=hS
 exact ⟨p,List.mem_range.1 hp,by simpa using hs⟩
set_option maxHeartbeats 16000000 in
set_option maxRecDepth 10000 in
theorem l03Draw_any {w0 w:World} {b:Nat} (h:SrcAt w0 w b):Calls Tryz.prog 77 #[.pointer (some ⟨b,0,none⟩)] w (LibPost w0 w b):=by
 have hb:Hid (b<w.heap.size):=hideIt h.ge.2.2
 have HG:Hid (w0.heap.size≤w.heap.size):=hideIt h.ge.2.1.size
 have B:=hideIt (((Boxes.start h).box hb.out 26 #[.slice none 0 0]).box hb.out 26 #[.slice none 0 0]).rebase
 clear h
 go_enter Tryz.func77,Tryz.ntmps77
 go_wp2_with fail
 refine at_w (fun u=>∃v,u=v.alloc (.cells #[.int .i64 1,.int .i64 0] 2)∧Boxes w0 w b (w.heap.size+2) _ _ v∧w.heap.size+2=v.heap.size) ⟨_,rfl,by simpa using B.out,by simp⟩ (fun u hu=>?_)
 obtain ⟨v0,rfl,b0,e0⟩:=hu
 have B:=hideIt b0
 have zv0:Hid (v0.heap.size=w.heap.size+2):=hideIt e0.symm
 clear b0 e0
 refine (l03Gate_at (w0:=w0) (m:=1) [1,0] B.out.1 zv0.out.symm (by decide) (by omega) rfl rfl rfl (by decide) (by decide)).mono ?_
 intro e u1 hp
 obtain ⟨A1,n1,C1,m1,T1,t1,x1,bs1,rfl,B1⟩:=B.out.cell hb.out ((Grows.refl _).alloc _) (Nat.le_refl _) hp
 clear B hp
 have z1:=hideIt B1.out.2.1.size
 obtain ⟨v1,hv1⟩:∃v,v=u1.alloc (.cells #[.string x1.name,.int .i64 x1.kind,.slice A1 x1.pins.length n1,.slice C1 x1.arcs.length m1,.slice T1 x1.truth.length t1,.int .i64 x1.leak,.int .i64 x1.energy] 112):=⟨_,rfl⟩
 have B:Hid (Boxes w0 w b (w.heap.size+2) _ _ v1):=hideIt (by rw [hv1];exact B1.out.box hb.out 112 #[.string x1.name,.int .i64 x1.kind,.slice A1 x1.pins.length n1,.slice C1 x1.arcs.length m1,.slice T1 x1.truth.length t1,.int .i64 x1.leak,.int .i64 x1.energy])
 clear B1
 have zv1:Hid (v1.heap.size=u1.heap.size+1):=hideIt (by rw [hv1];simp)
 have HV1:=hideIt hv1
 clear hv1
 go_wp2_with fail
 refine at_w (fun u=>u=v1.alloc (.cells #[.int .i64 0,.int .i64 1] 2)) (by rw [HV1.out]) (fun u hu=>?_)
 subst hu
 clear HV1
 refine (l03Gate_at (w0:=w0) (m:=1) [0,1] B.out.1 zv1.out.symm (by decide) (by omega) rfl rfl rfl (by decide) (by decide)).mono ?_
 intro e u2 hp
 obtain ⟨A2,n2,C2,m2,T2,t2,x2,bs2,rfl,B2⟩:=B.out.cell hb.out ((Grows.refl _).alloc _) (Nat.le_refl _) hp
 clear B hp
 have z2:=hideIt B2.out.2.1.size
 obtain ⟨v2,hv2⟩:∃v,v=u2.alloc (.cells #[.string x2.name,.int .i64 x2.kind,.slice A2 x2.pins.length n2,.slice C2 x2.arcs.length m2,.slice T2 x2.truth.length t2,.int .i64 x2.leak,.int .i64 x2.energy] 112):=⟨_,rfl⟩
 have B:Hid (Boxes w0 w b (w.heap.size+2) _ _ v2):=hideIt (by rw [hv2];exact B2.out.box hb.out 112 #[.string x2.name,.int .i64 x2.kind,.slice A2 x2.pins.length n2,.slice C2 x2.arcs.length m2,.slice T2 x2.truth.length t2,.int .i64 x2.leak,.int .i64 x2.energy])
 clear B2
 have zv2:Hid (v2.heap.size=u2.heap.size+1):=hideIt (by rw [hv2];simp)
 have HV2:=hideIt hv2
 clear hv2
 go_wp2_with fail
 refine at_w (fun u=>u=v2.alloc (.cells #[.int .i64 1,.int .i64 1,.int .i64 1,.int .i64 0] 2)) (by rw [HV2.out]) (fun u hu=>?_)
 subst hu
 clear HV2
 refine (l03Gate_at (w0:=w0) (m:=2) [1,1,1,0] B.out.1 zv2.out.symm (by decide) (by omega) rfl rfl rfl (by decide) (by decide)).mono ?_
 intro e u3 hp
 obtain ⟨A3,n3,C3,m3,T3,t3,x3,bs3,rfl,B3⟩:=B.out.cell hb.out ((Grows.refl _).alloc _) (Nat.le_refl _) hp
 clear B hp
 have z3:=hideIt B3.out.2.1.size
 obtain ⟨v3,hv3⟩:∃v,v=u3.alloc (.cells #[.string x3.name,.int .i64 x3.kind,.slice A3 x3.pins.length n3,.slice C3 x3.arcs.length m3,.slice T3 x3.truth.length t3,.int .i64 x3.leak,.int .i64 x3.energy] 112):=⟨_,rfl⟩
 have B:Hid (Boxes w0 w b (w.heap.size+2) _ _ v3):=hideIt (by rw [hv3];exact B3.out.box hb.out 112 #[.string x3.name,.int .i64 x3.kind,.slice A3 x3.pins.length n3,.slice C3 x3.arcs.length m3,.slice T3 x3.truth.length t3,.int .i64 x3.leak,.int .i64 x3.energy])
 clear B3
 have zv3:Hid (v3.heap.size=u3.heap.size+1):=hideIt (by rw [hv3];simp)
 have HV3:=hideIt hv3
 clear hv3
 go_wp2_with fail
 refine at_w (fun u=>u=v3.alloc (.cells #[.int .i64 0,.int .i64 1,.int .i64 1,.int .i64 0] 2)) (by rw [HV3.out]) (fun u hu=>?_)
 subst hu
 clear HV3
 refine (l03Gate_at (w0:=w0) (m:=2) [0,1,1,0] B.out.1 zv3.out.symm (by decide) (by omega) rfl rfl rfl (by decide) (by decide)).mono ?_
 intro e u4 hp
 obtain ⟨A4,n4,C4,m4,T4,t4,x4,bs4,rfl,B4⟩:=B.out.cell hb.out ((Grows.refl _).alloc _) (Nat.le_refl _) hp
 clear B hp
 have z4:=hideIt B4.out.2.1.size
 obtain ⟨v4,hv4⟩:∃v,v=u4.alloc (.cells #[.string x4.name,.int .i64 x4.kind,.slice A4 x4.pins.length n4,.slice C4 x4.arcs.length m4,.slice T4 x4.truth.length t4,.int .i64 x4.leak,.int .i64 x4.energy] 112):=⟨_,rfl⟩
 have B:Hid (Boxes w0 w b (w.heap.size+2) _ _ v4):=hideIt (by rw [hv4];exact B4.out.box hb.out 112 #[.string x4.name,.int .i64 x4.kind,.slice A4 x4.pins.length n4,.slice C4 x4.arcs.length m4,.slice T4 x4.truth.length t4,.int .i64 x4.leak,.int .i64 x4.energy])
 clear B4
 have zv4:Hid (v4.heap.size=u4.heap.size+1):=hideIt (by rw [hv4];simp)
 have HV4:=hideIt hv4
 clear hv4
 go_wp2_with fail
 refine at_w (fun u=>u=v4.alloc (.cells #[.int .i64 0,.int .i64 1,.int .i64 0,.int .i64 1,.int .i64 0,.int .i64 0,.int .i64 1,.int .i64 1] 2)) (by rw [HV4.out]) (fun u hu=>?_)
 subst hu
 clear HV4
 refine (l03Gate_at (w0:=w0) (m:=3) [0,1,0,1,0,0,1,1] B.out.1 zv4.out.symm (by decide) (by omega) rfl rfl rfl (by decide) (by decide)).mono ?_
 intro e u5 hp
 obtain ⟨A5,n5,C5,m5,T5,t5,x5,bs5,rfl,B5⟩:=B.out.cell hb.out ((Grows.refl _).alloc _) (Nat.le_refl _) hp
 clear B hp
 have z5:=hideIt B5.out.2.1.size
 obtain ⟨v5,hv5⟩:∃v,v=u5.alloc (.cells #[.string x5.name,.int .i64 x5.kind,.slice A5 x5.pins.length n5,.slice C5 x5.arcs.length m5,.slice T5 x5.truth.length t5,.int .i64 x5.leak,.int .i64 x5.energy] 112):=⟨_,rfl⟩
 have B:Hid (Boxes w0 w b (w.heap.size+2) _ _ v5):=hideIt (by rw [hv5];exact B5.out.box hb.out 112 #[.string x5.name,.int .i64 x5.kind,.slice A5 x5.pins.length n5,.slice C5 x5.arcs.length m5,.slice T5 x5.truth.length t5,.int .i64 x5.leak,.int .i64 x5.energy])
 clear B5
 have zv5:Hid (v5.heap.size=u5.heap.size+1):=hideIt (by rw [hv5];simp)
 have HV5:=hideIt hv5
 clear hv5
 go_wp2_with fail
 refine at_w (fun u=>u=v5) HV5.out.symm (fun u hu=>?_)
 subst hu
 clear HV5
 refine (l03DrawFlop_any (w0:=w0) B.out.1 (by decide)).mono ?_
 intro e u6 hp
 obtain ⟨A6,n6,C6,m6,T6,t6,x6,bs6,rfl,B6⟩:=B.out.cell hb.out (Grows.refl _) (Nat.le_refl _) hp
 clear B hp
 have z6:=hideIt B6.out.2.1.size
 obtain ⟨v6,hv6⟩:∃v,v=u6.alloc (.cells #[.string x6.name,.int .i64 x6.kind,.slice A6 x6.pins.length n6,.slice C6 x6.arcs.length m6,.slice T6 x6.truth.length t6,.int .i64 x6.leak,.int .i64 x6.energy] 112):=⟨_,rfl⟩
 have B:Hid (Boxes w0 w b (w.heap.size+2) _ _ v6):=hideIt (by rw [hv6];exact B6.out.box hb.out 112 #[.string x6.name,.int .i64 x6.kind,.slice A6 x6.pins.length n6,.slice C6 x6.arcs.length m6,.slice T6 x6.truth.length t6,.int .i64 x6.leak,.int .i64 x6.energy])
 clear B6
 have zv6:Hid (v6.heap.size=u6.heap.size+1):=hideIt (by rw [hv6];simp)
 have HV6:=hideIt hv6
 clear hv6
 go_wp2_with fail
 refine at_w (fun u=>u=v6) HV6.out.symm (fun u hu=>?_)
 subst hu
 clear HV6
 refine (l03DrawFlop_any (w0:=w0) B.out.1 (by decide)).mono ?_
 intro e u7 hp
 obtain ⟨A7,n7,C7,m7,T7,t7,x7,bs7,rfl,B7⟩:=B.out.cell hb.out (Grows.refl _) (Nat.le_refl _) hp
 clear B hp
 have z7:=hideIt B7.out.2.1.size
 obtain ⟨v7,hv7⟩:∃v,v=u7.alloc (.cells #[.string x7.name,.int .i64 x7.kind,.slice A7 x7.pins.length n7,.slice C7 x7.arcs.length m7,.slice T7 x7.truth.length t7,.int .i64 x7.leak,.int .i64 x7.energy] 112):=⟨_,rfl⟩
 have B:Hid (Boxes w0 w b (w.heap.size+2) _ _ v7):=hideIt (by rw [hv7];exact B7.out.box hb.out 112 #[.string x7.name,.int .i64 x7.kind,.slice A7 x7.pins.length n7,.slice C7 x7.arcs.length m7,.slice T7 x7.truth.length t7,.int .i64 x7.leak,.int .i64 x7.energy])
 clear B7
 have zv7:Hid (v7.heap.size=u7.heap.size+1):=hideIt (by rw [hv7];simp)
 have HV7:=hideIt hv7
 clear hv7
 go_wp2_with fail
 refine at_w (fun u=>u=v7) HV7.out.symm (fun u hu=>?_)
 subst hu
 clear HV7
 refine (l03DrawFlop_any (w0:=w0) B.out.1 (by decide)).mono ?_
 intro e u8 hp
 obtain ⟨A8,n8,C8,m8,T8,t8,x8,bs8,rfl,B8⟩:=B.out.cell hb.out (Grows.refl _) (Nat.le_refl _) hp
 clear B hp
 have z8:=hideIt B8.out.2.1.size
 obtain ⟨v8,hv8⟩:∃v,v=u8.alloc (.cells #[.string x8.name,.int .i64 x8.kind,.slice A8 x8.pins.length n8,.slice C8 x8.arcs.length m8,.slice T8 x8.truth.length t8,.int .i64 x8.leak,.int .i64 x8.energy] 112):=⟨_,rfl⟩
 have B:Hid (Boxes w0 w b (w.heap.size+2) _ _ v8):=hideIt (by rw [hv8];exact B8.out.box hb.out 112 #[.string x8.name,.int .i64 x8.kind,.slice A8 x8.pins.length n8,.slice C8 x8.arcs.length m8,.slice T8 x8.truth.length t8,.int .i64 x8.leak,.int .i64 x8.energy])
 clear B8
 have zv8:Hid (v8.heap.size=u8.heap.size+1):=hideIt (by rw [hv8];simp)
 have HV8:=hideIt hv8
 clear hv8
 go_upto_region 10 with fail
 refine at_c (fun u=>u=v8) HV8.out.symm (fun u hu=>?_)
 subst hu
 clear HV8
 have K1:=hideIt (B.out.2.2.1 (u1.heap.size,112,#[.string x1.name,.int .i64 x1.kind,.slice A1 x1.pins.length n1,.slice C1 x1.arcs.length m1,.slice T1 x1.truth.length t1,.int .i64 x1.leak,.int .i64 x1.energy]) (by repeat (first|exact List.mem_append_right _ (List.mem_singleton_self _)|refine List.mem_append_left _ ?_))).1
 have k1_0:=K1.out.cell 0
 have k1_1:=K1.out.cell 1
 have k1_2:=K1.out.cell 2
 have k1_3:=K1.out.cell 3
 have k1_4:=K1.out.cell 4
 have k1_5:=K1.out.cell 5
 have k1_6:=K1.out.cell 6
 simp at k1_0 k1_1 k1_2 k1_3 k1_4 k1_5 k1_6
 have K2:=hideIt (B.out.2.2.1 (u2.heap.size,112,#[.string x2.name,.int .i64 x2.kind,.slice A2 x2.pins.length n2,.slice C2 x2.arcs.length m2,.slice T2 x2.truth.length t2,.int .i64 x2.leak,.int .i64 x2.energy]) (by repeat (first|exact List.mem_append_right _ (List.mem_singleton_self _)|refine List.mem_append_left _ ?_))).1
 have k2_0:=K2.out.cell 0
 have k2_1:=K2.out.cell 1
 have k2_2:=K2.out.cell 2
 have k2_3:=K2.out.cell 3
 have k2_4:=K2.out.cell 4
 have k2_5:=K2.out.cell 5
 have k2_6:=K2.out.cell 6
 simp at k2_0 k2_1 k2_2 k2_3 k2_4 k2_5 k2_6
 have K3:=hideIt (B.out.2.2.1 (u3.heap.size,112,#[.string x3.name,.int .i64 x3.kind,.slice A3 x3.pins.length n3,.slice C3 x3.arcs.length m3,.slice T3 x3.truth.length t3,.int .i64 x3.leak,.int .i64 x3.energy]) (by repeat (first|exact List.mem_append_right _ (List.mem_singleton_self _)|refine List.mem_append_left _ ?_))).1
 have k3_0:=K3.out.cell 0
 have k3_1:=K3.out.cell 1
 have k3_2:=K3.out.cell 2
 have k3_3:=K3.out.cell 3
 have k3_4:=K3.out.cell 4
 have k3_5:=K3.out.cell 5
 have k3_6:=K3.out.cell 6
 simp at k3_0 k3_1 k3_2 k3_3 k3_4 k3_5 k3_6
 have K4:=hideIt (B.out.2.2.1 (u4.heap.size,112,#[.string x4.name,.int .i64 x4.kind,.slice A4 x4.pins.length n4,.slice C4 x4.arcs.length m4,.slice T4 x4.truth.length t4,.int .i64 x4.leak,.int .i64 x4.energy]) (by repeat (first|exact List.mem_append_right _ (List.mem_singleton_self _)|refine List.mem_append_left _ ?_))).1
 have k4_0:=K4.out.cell 0
 have k4_1:=K4.out.cell 1
 have k4_2:=K4.out.cell 2
 have k4_3:=K4.out.cell 3
 have k4_4:=K4.out.cell 4
 have k4_5:=K4.out.cell 5
 have k4_6:=K4.out.cell 6
 simp at k4_0 k4_1 k4_2 k4_3 k4_4 k4_5 k4_6
 have K5:=hideIt (B.out.2.2.1 (u5.heap.size,112,#[.string x5.name,.int .i64 x5.kind,.slice A5 x5.pins.length n5,.slice C5 x5.arcs.length m5,.slice T5 x5.truth.length t5,.int .i64 x5.leak,.int .i64 x5.energy]) (by repeat (first|exact List.mem_append_right _ (List.mem_singleton_self _)|refine List.mem_append_left _ ?_))).1
 have k5_0:=K5.out.cell 0
 have k5_1:=K5.out.cell 1
 have k5_2:=K5.out.cell 2
 have k5_3:=K5.out.cell 3
 have k5_4:=K5.out.cell 4
 have k5_5:=K5.out.cell 5
 have k5_6:=K5.out.cell 6
 simp at k5_0 k5_1 k5_2 k5_3 k5_4 k5_5 k5_6
 have K6:=hideIt (B.out.2.2.1 (u6.heap.size,112,#[.string x6.name,.int .i64 x6.kind,.slice A6 x6.pins.length n6,.slice C6 x6.arcs.length m6,.slice T6 x6.truth.length t6,.int .i64 x6.leak,.int .i64 x6.energy]) (by repeat (first|exact List.mem_append_right _ (List.mem_singleton_self _)|refine List.mem_append_left _ ?_))).1
 have k6_0:=K6.out.cell 0
 have k6_1:=K6.out.cell 1
 have k6_2:=K6.out.cell 2
 have k6_3:=K6.out.cell 3
 have k6_4:=K6.out.cell 4
 have k6_5:=K6.out.cell 5
 have k6_6:=K6.out.cell 6
 simp at k6_0 k6_1 k6_2 k6_3 k6_4 k6_5 k6_6
 have K7:=hideIt (B.out.2.2.1 (u7.heap.size,112,#[.string x7.name,.int .i64 x7.kind,.slice A7 x7.pins.length n7,.slice C7 x7.arcs.length m7,.slice T7 x7.truth.length t7,.int .i64 x7.leak,.int .i64 x7.energy]) (by repeat (first|exact List.mem_append_right _ (List.mem_singleton_self _)|refine List.mem_append_left _ ?_))).1
 have k7_0:=K7.out.cell 0
 have k7_1:=K7.out.cell 1
 have k7_2:=K7.out.cell 2
 have k7_3:=K7.out.cell 3
 have k7_4:=K7.out.cell 4
 have k7_5:=K7.out.cell 5
 have k7_6:=K7.out.cell 6
 simp at k7_0 k7_1 k7_2 k7_3 k7_4 k7_5 k7_6
 have K8:=hideIt (B.out.2.2.1 (u8.heap.size,112,#[.string x8.name,.int .i64 x8.kind,.slice A8 x8.pins.length n8,.slice C8 x8.arcs.length m8,.slice T8 x8.truth.length t8,.int .i64 x8.leak,.int .i64 x8.energy]) (by repeat (first|exact List.mem_append_right _ (List.mem_singleton_self _)|refine List.mem_append_left _ ?_))).1
 have k8_0:=K8.out.cell 0
 have k8_1:=K8.out.cell 1
 have k8_2:=K8.out.cell 2
 have k8_3:=K8.out.cell 3
 have k8_4:=K8.out.cell 4
 have k8_5:=K8.out.cell 5
 have k8_6:=K8.out.cell 6
 simp at k8_0 k8_1 k8_2 k8_3 k8_4 k8_5 k8_6
 have KL:=hideIt (B.out.2.2.1 (w.heap.size+1,26,#[.slice none 0 0]) (by repeat (with_reducible refine List.mem_append_left _ ?_);simp)).1
 have KR:=hideIt (B.out.2.2.1 (w.heap.size,26,#[.slice none 0 0]) (by repeat (with_reducible refine List.mem_append_left _ ?_);simp)).1
 have fL:=KL.out.frozen
 have lL:=KL.out.lt
 have kL:=KL.out.cell 0
 have fR:=KR.out.frozen
 have lR:=KR.out.lt
 have kR:=KR.out.cell 0
 simp at kL kR
 go_wp2
 refine bodyPost_ret (by simp [*,results,Tryz.results77,go_sem];try rfl) rfl ?_
 have key:∀uS:World,uS.heap.size=u.heap.size→Chg [w.heap.size+1,w.heap.size] u uS→Chg [b] w uS→LibPost w0 w b (.returned (.agg #[.slice (some ⟨u.heap.size,0,none⟩) 8 8])) (uS.alloc (.cells #[.string x1.name,.int .i64 x1.kind,.slice A1 x1.pins.length n1,.slice C1 x1.arcs.length m1,.slice T1 x1.truth.length t1,.int .i64 x1.leak,.int .i64 x1.energy,.string x2.name,.int .i64 x2.kind,.slice A2 x2.pins.length n2,.slice C2 x2.arcs.length m2,.slice T2 x2.truth.length t2,.int .i64 x2.leak,.int .i64 x2.energy,.string x3.name,.int .i64 x3.kind,.slice A3 x3.pins.length n3,.slice C3 x3.arcs.length m3,.slice T3 x3.truth.length t3,.int .i64 x3.leak,.int .i64 x3.energy,.string x4.name,.int .i64 x4.kind,.slice A4 x4.pins.length n4,.slice C4 x4.arcs.length m4,.slice T4 x4.truth.length t4,.int .i64 x4.leak,.int .i64 x4.energy,.string x5.name,.int .i64 x5.kind,.slice A5 x5.pins.length n5,.slice C5 x5.arcs.length m5,.slice T5 x5.truth.length t5,.int .i64 x5.leak,.int .i64 x5.energy,.string x6.name,.int .i64 x6.kind,.slice A6 x6.pins.length n6,.slice C6 x6.arcs.length m6,.slice T6 x6.truth.length t6,.int .i64 x6.leak,.int .i64 x6.energy,.string x7.name,.int .i64 x7.kind,.slice A7 x7.pins.length n7,.slice C7 x7.arcs.length m7,.slice T7 x7.truth.length t7,.int .i64 x7.leak,.int .i64 x7.energy,.string x8.name,.int .i64 x8.kind,.slice A8 x8.pins.length n8,.slice C8 x8.arcs.length m8,.slice T8 x8.truth.length t8,.int .i64 x8.leak,.int .i64 x8.energy] 112)):=fun uS e9 c9 h9=>by
  obtain ⟨h1,h2,h3,h4,h5,h6,h7⟩:=B.out
  have hbw:=hb.out
  have hg:=HG.out
  have hk:∀es x bs,(es,x,bs)∈_→OCellB (uS.alloc (.cells #[.string x1.name,.int .i64 x1.kind,.slice A1 x1.pins.length n1,.slice C1 x1.arcs.length m1,.slice T1 x1.truth.length t1,.int .i64 x1.leak,.int .i64 x1.energy,.string x2.name,.int .i64 x2.kind,.slice A2 x2.pins.length n2,.slice C2 x2.arcs.length m2,.slice T2 x2.truth.length t2,.int .i64 x2.leak,.int .i64 x2.energy,.string x3.name,.int .i64 x3.kind,.slice A3 x3.pins.length n3,.slice C3 x3.arcs.length m3,.slice T3 x3.truth.length t3,.int .i64 x3.leak,.int .i64 x3.energy,.string x4.name,.int .i64 x4.kind,.slice A4 x4.pins.length n4,.slice C4 x4.arcs.length m4,.slice T4 x4.truth.length t4,.int .i64 x4.leak,.int .i64 x4.energy,.string x5.name,.int .i64 x5.kind,.slice A5 x5.pins.length n5,.slice C5 x5.arcs.length m5,.slice T5 x5.truth.length t5,.int .i64 x5.leak,.int .i64 x5.energy,.string x6.name,.int .i64 x6.kind,.slice A6 x6.pins.length n6,.slice C6 x6.arcs.length m6,.slice T6 x6.truth.length t6,.int .i64 x6.leak,.int .i64 x6.energy,.string x7.name,.int .i64 x7.kind,.slice A7 x7.pins.length n7,.slice C7 x7.arcs.length m7,.slice T7 x7.truth.length t7,.int .i64 x7.leak,.int .i64 x7.energy,.string x8.name,.int .i64 x8.kind,.slice A8 x8.pins.length n8,.slice C8 x8.arcs.length m8,.slice T8 x8.truth.length t8,.int .i64 x8.leak,.int .i64 x8.energy] 112)) es x bs:=fun es x bs hm=>(h4 _ hm).keep ((c9.alloc _).same (h4 _ hm).lt (fun g hg=>by
   have:=h5.2 g (List.mem_flatten.2 ⟨_,List.mem_map.2 ⟨_,hm,rfl⟩,hg⟩)
   simp
   omega))
  have row:=ORow.lit (sz:=7) (t:=112) (O:=OCellB) (lo:=w.heap.size) (w:=uS) (xs:=[x1,x2,x3,x4,x5,x6,x7,x8]) (bss:=[bs1,bs2,bs3,bs4,bs5,bs6,bs7,bs8]) (cs:=#[.string x1.name,.int .i64 x1.kind,.slice A1 x1.pins.length n1,.slice C1 x1.arcs.length m1,.slice T1 x1.truth.length t1,.int .i64 x1.leak,.int .i64 x1.energy,.string x2.name,.int .i64 x2.kind,.slice A2 x2.pins.length n2,.slice C2 x2.arcs.length m2,.slice T2 x2.truth.length t2,.int .i64 x2.leak,.int .i64 x2.energy,.string x3.name,.int .i64 x3.kind,.slice A3 x3.pins.length n3,.slice C3 x3.arcs.length m3,.slice T3 x3.truth.length t3,.int .i64 x3.leak,.int .i64 x3.energy,.string x4.name,.int .i64 x4.kind,.slice A4 x4.pins.length n4,.slice C4 x4.arcs.length m4,.slice T4 x4.truth.length t4,.int .i64 x4.leak,.int .i64 x4.energy,.string x5.name,.int .i64 x5.kind,.slice A5 x5.pins.length n5,.slice C5 x5.arcs.length m5,.slice T5 x5.truth.length t5,.int .i64 x5.leak,.int .i64 x5.energy,.string x6.name,.int .i64 x6.kind,.slice A6 x6.pins.length n6,.slice C6 x6.arcs.length m6,.slice T6 x6.truth.length t6,.int .i64 x6.leak,.int .i64 x6.energy,.string x7.name,.int .i64 x7.kind,.slice A7 x7.pins.length n7,.slice C7 x7.arcs.length m7,.slice T7 x7.truth.length t7,.int .i64 x7.leak,.int .i64 x7.energy,.string x8.name,.int .i64 x8.kind,.slice A8 x8.pins.length n8,.slice C8 x8.arcs.length m8,.slice T8 x8.truth.length t8,.int .i64 x8.leak,.int .i64 x8.energy]) (Els.cons (es:=[.string x1.name,.int .i64 x1.kind,.slice A1 x1.pins.length n1,.slice C1 x1.arcs.length m1,.slice T1 x1.truth.length t1,.int .i64 x1.leak,.int .i64 x1.energy]) rfl (hk [.string x1.name,.int .i64 x1.kind,.slice A1 x1.pins.length n1,.slice C1 x1.arcs.length m1,.slice T1 x1.truth.length t1,.int .i64 x1.leak,.int .i64 x1.energy] x1 bs1 (by repeat (first|exact List.mem_append_right _ (List.mem_singleton_self _)|refine List.mem_append_left _ ?_))) (Els.cons (es:=[.string x2.name,.int .i64 x2.kind,.slice A2 x2.pins.length n2,.slice C2 x2.arcs.length m2,.slice T2 x2.truth.length t2,.int .i64 x2.leak,.int .i64 x2.energy]) rfl (hk [.string x2.name,.int .i64 x2.kind,.slice A2 x2.pins.length n2,.slice C2 x2.arcs.length m2,.slice T2 x2.truth.length t2,.int .i64 x2.leak,.int .i64 x2.energy] x2 bs2 (by repeat (first|exact List.mem_append_right _ (List.mem_singleton_self _)|refine List.mem_append_left _ ?_))) (Els.cons (es:=[.string x3.name,.int .i64 x3.kind,.slice A3 x3.pins.length n3,.slice C3 x3.arcs.length m3,.slice T3 x3.truth.length t3,.int .i64 x3.leak,.int .i64 x3.energy]) rfl (hk [.string x3.name,.int .i64 x3.kind,.slice A3 x3.pins.length n3,.slice C3 x3.arcs.length m3,.slice T3 x3.truth.length t3,.int .i64 x3.leak,.int .i64 x3.energy] x3 bs3 (by repeat (first|exact List.mem_append_right _ (List.mem_singleton_self _)|refine List.mem_append_left _ ?_))) (Els.cons (es:=[.string x4.name,.int .i64 x4.kind,.slice A4 x4.pins.length n4,.slice C4 x4.arcs.length m4,.slice T4 x4.truth.length t4,.int .i64 x4.leak,.int .i64 x4.energy]) rfl (hk [.string x4.name,.int .i64 x4.kind,.slice A4 x4.pins.length n4,.slice C4 x4.arcs.length m4,.slice T4 x4.truth.length t4,.int .i64 x4.leak,.int .i64 x4.energy] x4 bs4 (by repeat (first|exact List.mem_append_right _ (List.mem_singleton_self _)|refine List.mem_append_left _ ?_))) (Els.cons (es:=[.string x5.name,.int .i64 x5.kind,.slice A5 x5.pins.length n5,.slice C5 x5.arcs.length m5,.slice T5 x5.truth.length t5,.int .i64 x5.leak,.int .i64 x5.energy]) rfl (hk [.string x5.name,.int .i64 x5.kind,.slice A5 x5.pins.length n5,.slice C5 x5.arcs.length m5,.slice T5 x5.truth.length t5,.int .i64 x5.leak,.int .i64 x5.energy] x5 bs5 (by repeat (first|exact List.mem_append_right _ (List.mem_singleton_self _)|refine List.mem_append_left _ ?_))) (Els.cons (es:=[.string x6.name,.int .i64 x6.kind,.slice A6 x6.pins.length n6,.slice C6 x6.arcs.length m6,.slice T6 x6.truth.length t6,.int .i64 x6.leak,.int .i64 x6.energy]) rfl (hk [.string x6.name,.int .i64 x6.kind,.slice A6 x6.pins.length n6,.slice C6 x6.arcs.length m6,.slice T6 x6.truth.length t6,.int .i64 x6.leak,.int .i64 x6.energy] x6 bs6 (by repeat (first|exact List.mem_append_right _ (List.mem_singleton_self _)|refine List.mem_append_left _ ?_))) (Els.cons (es:=[.string x7.name,.int .i64 x7.kind,.slice A7 x7.pins.length n7,.slice C7 x7.arcs.length m7,.slice T7 x7.truth.length t7,.int .i64 x7.leak,.int .i64 x7.energy]) rfl (hk [.string x7.name,.int .i64 x7.kind,.slice A7 x7.pins.length n7,.slice C7 x7.arcs.length m7,.slice T7 x7.truth.length t7,.int .i64 x7.leak,.int .i64 x7.energy] x7 bs7 (by repeat (first|exact List.mem_append_right _ (List.mem_singleton_self _)|refine List.mem_append_left _ ?_))) (Els.cons (es:=[.string x8.name,.int .i64 x8.kind,.slice A8 x8.pins.length n8,.slice C8 x8.arcs.length m8,.slice T8 x8.truth.length t8,.int .i64 x8.leak,.int .i64 x8.energy]) rfl (hk [.string x8.name,.int .i64 x8.kind,.slice A8 x8.pins.length n8,.slice C8 x8.arcs.length m8,.slice T8 x8.truth.length t8,.int .i64 x8.leak,.int .i64 x8.energy] x8 bs8 (by repeat (first|exact List.mem_append_right _ (List.mem_singleton_self _)|refine List.mem_append_left _ ?_))) (Els.nil))))))))) (by show 8≤maxLen;decide) (by omega) (by
   have q:=h5.mono (lo':=w.heap.size) (hi':=uS.heap.size) (by omega) (by omega)
   simpa using q)
  rw [←e9]
  exact ⟨_,_,[x1,x2,x3,x4,x5,x6,x7,x8],_,rfl,rfl,row.list,row.own,(h1.chg c9 (by simp;omega) (fun g hg=>by simp at hg;omega)).alloc _,h9.alloc _⟩
 have CB:Hid (Chg [b] w u):=hideIt B.out.2.1
 refine key _ ?_ ?_ ?_
 ·simp [World.setCell]
 ·repeat (first|refine Chg.setCell ?_ (by simp) _|with_reducible exact Chg.refl _ _)
 ·repeat (first|refine Chg.setNew ?_ (by simp) _|exact CB.out)
end Go.Proofs.YtlnpefiipdkafaaGreatDoor
