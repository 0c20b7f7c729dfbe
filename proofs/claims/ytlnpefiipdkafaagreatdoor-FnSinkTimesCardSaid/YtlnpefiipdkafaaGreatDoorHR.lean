/-
  The program's delays of a wire's nodes.
-/
import Derived.Test.YtlnpefiipdkafaaGreatDoorIZ
import Derived.Test.YtlnpefiipdkafaaGreatDoorGT
namespace Go.Proofs.YtlnpefiipdkafaaGreatDoor
open Go.RowKit

theorem arr_zero (w:World) (n:Nat):Arr (w.alloc (.cells (madeCells #[.int .i64 0] n) 2)) w.heap.size (List.replicate n 0):=by
 refine ⟨_,Blk.new w _ _,by simp [madeCells],fun j hj=>?_⟩
 simp at hj
 simp [madeCells,hj,Nat.mod_one,List.getD_eq_getElem?_getD]
theorem pad_getD {D E:List Int} {p:Nat} (h:p<D.length):(D++E).getD p 0=D.getD p 0:=by
 rw [List.getD_eq_getElem?_getD,List.getD_eq_getElem?_getD,List.getElem?_append_left h]
theorem arr_pad {w:World} {g m p:Nat} {D:List Int} {v:Int} (h:Arr w g (D++List.replicate m 0)) (hm:1≤m) (hp:p=D.length):Arr (w.setCell ⟨g,p,none⟩ (.int .i64 v)) g ((D++[v])++List.replicate (m - 1) 0):=by
 have h1:=h.put (p:=p) (v:=v) (by rw [List.length_append,List.length_replicate];omega)
 have e:(D++List.replicate m 0).set p v=(D++[v])++List.replicate (m - 1) 0:=by
  obtain ⟨n,rfl⟩:∃n,m=n+1:=⟨m - 1,by omega⟩
  subst hp
  rw [List.set_append,if_neg (by omega),Nat.sub_self,List.replicate_succ]
  simp
 rw [e] at h1
 exact h1
set_option maxHeartbeats 16000000 in
set_option maxRecDepth 10000 in
theorem iDelays_any {lv a b c wv:Value} {cs:List CellD} {d:DesignD} {ws:List WireD} {x:WireD} (k:Nat) (w:World) (hl:RCells w lv cs) (hd:RDesign w [a,b,c] d) (hw:RWires w wv ws) (hb:BlkP cs d ws) (hx:ws[k]?=some x) :
  Calls Tryz.prog 63 #[.agg #[lv,a,b,c,wv],.int .i64 (k:Int)] w fun e w'=>∃(A:Option Addr) (c:Nat) (bs:List Nat),e=.returned (.slice A (delaysL cs d x (k:Int)).length c)∧OInts w' (.slice A (delaysL cs d x (k:Int)).length c) (delaysL cs d x (k:Int)) bs∧Own w.heap.size w'.heap.size bs∧Grows w w':=by
 have cl:=RList.len hl
 have wl:=RList.len hw
 obtain ⟨C,nc,rfl⟩:∃(D:Option Addr) (q:Nat),lv=.slice D cs.length q:=by obtain ⟨D,q,e,-⟩:=RList.form hl;exact ⟨D,q,e⟩
 obtain ⟨W,nw,rfl⟩:∃(D:Option Addr) (q:Nat),wv=.slice D ws.length q:=by obtain ⟨D,q,e,-⟩:=RList.form hw;exact ⟨D,q,e⟩
 have nl:=RList.len hd.parts.2.1
 obtain ⟨I,N,O,ni,nn,no,rfl,rfl,rfl⟩:=des_open hd
 have hT:=wireT_of (hb.wire k x hx)
 have n1:=hT.n1
 have n8:=hT.n8
 have ncap:=hT.cap
 have nres:=hT.res
 have nsink:=hT.sink
 have klt:k<ws.length:=(List.getElem?_eq_some_iff.1 hx).1
 have k1:(k:Int)<(ws.length:Int):=by omega
 have k2:(0:Int)≤(k:Int):=by omega
 obtain ⟨bw,ow,A0,A1,A2,A3,m0,m1,m2,m3,rfl,q0,q1,q2,q3,hxr⟩:=wires_at hw hx
 have lbw:=cell_lt q0
 simp at lbw
 have ncap1:x.cap.length≤x.parent.length:=by omega
 have ncap2:x.parent.length≤x.cap.length:=by omega
 have ns1:x.sink.length≤(sinksL d (k:Int)).length:=by omega
 have ns2:(sinksL d (k:Int)).length≤x.sink.length:=by omega
 have nr1:x.res.length≤x.parent.length:=by omega
 have nr2:x.parent.length≤x.res.length:=by omega
 have HT:=hideIt hT
 have DP:=hideIt hb.des
 have HX:=hideIt hx
 have mb:=sinksL_len hb.des (k:Int)
 have BP:=hideIt hb
 clear hT hb hx ncap nres nsink
 obtain ⟨j0,hj0,hy0,hy1,hy2⟩:=info_parts info_i64'
 have g:Grows w w:=Grows.refl w
 have G:Hid (Grows w (w.alloc (.cells #[.slice C cs.length nc,.slice I d.insts.length ni,.slice N d.nets.length nn,.slice O d.ports.length no,.slice (some ⟨bw,ow,none⟩) ws.length nw] 49))):=hideIt ((Grows.refl w).alloc _)
 clear g
 have SB:Hid (Blk (w.alloc (.cells #[.slice C cs.length nc,.slice I d.insts.length ni,.slice N d.nets.length nn,.slice O d.ports.length no,.slice (some ⟨bw,ow,none⟩) ws.length nw] 49)) (w.heap.size) 49 #[.slice C cs.length nc,.slice I d.insts.length ni,.slice N d.nets.length nn,.slice O d.ports.length no,.slice (some ⟨bw,ow,none⟩) ws.length nw]):=by
  have:=(Blk.new w 49 #[.slice C cs.length nc,.slice I d.insts.length ni,.slice N d.nets.length nn,.slice O d.ports.length no,.slice (some ⟨bw,ow,none⟩) ws.length nw]).grows (Grows.refl (w.alloc (.cells #[.slice C cs.length nc,.slice I d.insts.length ni,.slice N d.nets.length nn,.slice O d.ports.length no,.slice (some ⟨bw,ow,none⟩) ws.length nw] 49)))
  exact hideIt (by simpa using this)
 replace hl:=hideIt (hl.keep G.out.keeps)
 replace hd:=hideIt (hd.keep G.out.keeps)
 replace hxr:=hideIt (hxr.keep G.out.keeps)
 replace hw:=hideIt (hw.keep G.out.keeps)
 go_enter Tryz.func63,Tryz.ntmps63
 have GB0:=G
 have VS:=hideIt SB.out.lt
 have K0:∀w',Grows (w.alloc (.cells #[.slice C cs.length nc,.slice I d.insts.length ni,.slice N d.nets.length nn,.slice O d.ports.length no,.slice (some ⟨bw,ow,none⟩) ws.length nw] 49)) w'→w'.cell? ⟨w.heap.size,0,none⟩=some (.slice C cs.length nc)∧w'.cell? ⟨w.heap.size,1,none⟩=some (.slice I d.insts.length ni)∧w'.cell? ⟨w.heap.size,2,none⟩=some (.slice N d.nets.length nn)∧w'.cell? ⟨w.heap.size,3,none⟩=some (.slice O d.ports.length no)∧w'.cell? ⟨w.heap.size,4,none⟩=some (.slice (some ⟨bw,ow,none⟩) ws.length nw)∧w'.cell? ⟨bw,ow+k * 4,none⟩=some (.slice A0 x.parent.length m0)∧w'.cell? ⟨bw,ow+k * 4+1,none⟩=some (.slice A1 x.res.length m1)∧w'.cell? ⟨bw,ow+k * 4+2,none⟩=some (.slice A2 x.cap.length m2)∧w'.cell? ⟨bw,ow+k * 4+3,none⟩=some (.slice A3 x.sink.length m3)∧Grows (w.alloc (.cells #[.slice C cs.length nc,.slice I d.insts.length ni,.slice N d.nets.length nn,.slice O d.ports.length no,.slice (some ⟨bw,ow,none⟩) ws.length nw] 49)) w':=fun w' G=>⟨(G.cells.1 _ _ SB.out.lt).trans (SB.out.cell 0),(G.cells.1 _ _ SB.out.lt).trans (SB.out.cell 1),(G.cells.1 _ _ SB.out.lt).trans (SB.out.cell 2),(G.cells.1 _ _ SB.out.lt).trans (SB.out.cell 3),(G.cells.1 _ _ SB.out.lt).trans (SB.out.cell 4),G.keeps _ _ (GB0.out.keeps _ _ q0),G.keeps _ _ (GB0.out.keeps _ _ q1),G.keeps _ _ (GB0.out.keeps _ _ q2),G.keeps _ _ (GB0.out.keeps _ _ q3),G⟩
 have HK:=hideIt K0
 clear K0
 have gg:Grows (w.alloc (.cells #[.slice C cs.length nc,.slice I d.insts.length ni,.slice N d.nets.length nn,.slice O d.ports.length no,.slice (some ⟨bw,ow,none⟩) ws.length nw] 49)) (w.alloc (.cells #[.slice C cs.length nc,.slice I d.insts.length ni,.slice N d.nets.length nn,.slice O d.ports.length no,.slice (some ⟨bw,ow,none⟩) ws.length nw] 49)):=Grows.refl _
 go_wp2
 refine wp_region_held_drew (S:=(fun w'=>w'.cell? ⟨w.heap.size,0,none⟩=some (.slice C cs.length nc)∧w'.cell? ⟨w.heap.size,1,none⟩=some (.slice I d.insts.length ni)∧w'.cell? ⟨w.heap.size,2,none⟩=some (.slice N d.nets.length nn)∧w'.cell? ⟨w.heap.size,3,none⟩=some (.slice O d.ports.length no)∧w'.cell? ⟨w.heap.size,4,none⟩=some (.slice (some ⟨bw,ow,none⟩) ws.length nw)∧w'.cell? ⟨bw,ow+k * 4,none⟩=some (.slice A0 x.parent.length m0)∧w'.cell? ⟨bw,ow+k * 4+1,none⟩=some (.slice A1 x.res.length m1)∧w'.cell? ⟨bw,ow+k * 4+2,none⟩=some (.slice A2 x.cap.length m2)∧w'.cell? ⟨bw,ow+k * 4+3,none⟩=some (.slice A3 x.sink.length m3)∧Grows (w.alloc (.cells #[.slice C cs.length nc,.slice I d.insts.length ni,.slice N d.nets.length nn,.slice O d.ports.length no,.slice (some ⟨bw,ow,none⟩) ws.length nw] 49)) w')) (by kernel_rfl) ?_ (fun hh0=>?_)
 ·(try dsimp only);exact HK.out _ gk
 refine regTk 0 hh0 ?_
 refine regTk 1 hh0 ?_
 refine regTk 2 hh0 ?_
 refine regTk 3 hh0 ?_
 refine regTk 4 hh0 ?_
 refine regTk 5 hh0 ?_
 refine regTk 6 hh0 ?_
 refine regCall2 7 8 (fun K hK=>?_) (fun K hK=>?_)
 ·go_simp
  refine (iLoads_any k _ (hl.out.keep (Grows.keeps gk)) (hd.out.keep (Grows.keeps gk)) (hw.out.keep (Grows.keeps gk)) BP.out HX.out).mono ?_
  rintro e wx ⟨A9,c9,b9,rfl,o,ow9,g⟩
  replace gg:=gg.gt g
  clear g
  have HL9:=hideIt (loadsL_len (l:=cs) (d:=d) (n:=(k:Int)) (x:=x))
  obtain ⟨L,eL⟩:∃L:List Int,L=loadsL cs d x (k:Int):=⟨_,rfl⟩
  rw [←eL] at o ⊢
  have LB:=hideIt (fun q=>eL ▸ loadsL_bd DP.out HT.out q:∀q,0≤L.getD q 0∧L.getD q 0≤43000)
  have DB:=hideIt (fun q (i:Nat) (hi:i≤7)=>eL ▸ delay_bd DP.out HT.out hi q:∀q (i:Nat),i≤7→0≤(dlS x.parent x.res L i).getD q 0∧(dlS x.parent x.res L i).getD q 0≤301000000)
  have ll:L.length=x.cap.length:=by rw [eL];exact HL9.out
  have ll1:L.length≤x.parent.length:=by omega
  have ll2:x.parent.length≤L.length:=by omega
  have ED:=hideIt (show dlS x.parent x.res L (L.length - 1)=delaysL cs d x (k:Int) from by unfold delaysL;rw [ll,eL])
  have rl:=o.reads
  clear o ow9 HL9 ll eL
  replace rl:=hideIt rl
  (try go_wp2_with fail)
  refine hK.out _ _ ?_ (fun hh1=>?_)
  ·(try dsimp only);exact HK.out _ gk
  clear hK K hh0
  try simp only [Act.put,List.setIfInBounds_toArray,List.set_cons_zero,List.set_cons_succ]
  refine regCall 8 (fun K hK=>?_)
  go_simp
  (try go_wp2_with fail)
  refine hK.out _ _ ?_ (fun hh2=>?_)
  ·(try dsimp only);exact HK.out _ gk
  clear hK K hh1
  try simp only [Act.put,List.setIfInBounds_toArray,List.set_cons_zero,List.set_cons_succ]
  refine regCall 9 (fun K hK=>?_)
  go_simp
  (try go_wp2_with fail)
  refine hK.out _ _ ?_ (fun hh3=>?_)
  ·(try dsimp only);exact HK.out _ gk
  clear hK K hh2
  try simp only [Act.put,List.setIfInBounds_toArray,List.set_cons_zero,List.set_cons_succ]
  refine regTk 10 hh3 ?_
  refine wpAnyH_done (by kernel_rfl) ?_ _
  clear hh3 HK
  have VB:Hid (Blk (wx.alloc (.cells #[.slice A0 x.parent.length m0,.slice A1 x.res.length m1,.slice A2 x.cap.length m2,.slice A3 x.sink.length m3] 56)) (wx.heap.size) 56 #[.slice A0 x.parent.length m0,.slice A1 x.res.length m1,.slice A2 x.cap.length m2,.slice A3 x.sink.length m3]):=hideIt (Blk.new wx _ _)
  have rl5:=hideIt (rl.out.keep (((Grows.refl _).alloc _:Grows wx (wx.alloc (.cells #[.slice A0 x.parent.length m0,.slice A1 x.res.length m1,.slice A2 x.cap.length m2,.slice A3 x.sink.length m3] 56)))).keeps)
  have G5:Hid (Grows (w.alloc (.cells #[.slice C cs.length nc,.slice I d.insts.length ni,.slice N d.nets.length nn,.slice O d.ports.length no,.slice (some ⟨bw,ow,none⟩) ws.length nw] 49)) (wx.alloc (.cells #[.slice A0 x.parent.length m0,.slice A1 x.res.length m1,.slice A2 x.cap.length m2,.slice A3 x.sink.length m3] 56))):=hideIt gk
  have hx5:=hideIt (hxr.out.keep G5.out.keeps)
  have EB:Hid (((wx.alloc (.cells #[.slice A0 x.parent.length m0,.slice A1 x.res.length m1,.slice A2 x.cap.length m2,.slice A3 x.sink.length m3] 56))).heap.size=wx.heap.size+1):=hideIt (by simp)
  have SZ:Hid (w.heap.size+1≤wx.heap.size):=hideIt (by simpa using gg.size)
  have BVL:Hid (wx.heap.size<wx.heap.size+1):=hideIt (by have h:=VB.out.lt;rw [EB.out] at h;exact h)
  have AR:Hid (Arr ((wx.alloc (.cells #[.slice A0 x.parent.length m0,.slice A1 x.res.length m1,.slice A2 x.cap.length m2,.slice A3 x.sink.length m3] 56)).alloc (.cells (madeCells #[.int .i64 0] L.length) 2)) (wx.heap.size+1) (dlS x.parent x.res L (1 - 1)++List.replicate (L.length - 1) 0)):=hideIt (by
   have h:=arr_zero (wx.alloc (.cells #[.slice A0 x.parent.length m0,.slice A1 x.res.length m1,.slice A2 x.cap.length m2,.slice A3 x.sink.length m3] 56)) L.length
   rw [EB.out] at h
   obtain ⟨n,hn⟩:∃n,L.length=n+1:=⟨L.length - 1,by omega⟩
   rw [hn] at h ⊢
   exact h)
  have hmk:∀z:World,(Instr.makeSlice 39 (.int .i64 (L.length:Int)) (.int .i64 (L.length:Int))).run Tryz.prog z =
    .ok (.slice (some ⟨z.heap.size,0,none⟩) L.length L.length) (z.alloc (.cells (madeCells #[.int .i64 0] L.length) 2)):=fun z=>by
   have h:=run_make (P:=Tryz.prog) z 39 2 j0 (.int .i64 0) Tryz.underlying39 hj0 hy0 .i64 .i64 (L.length:Int) (L.length:Int) (by omega) (Int.le_refl _) (by rw [hy2];omega) (by omega)
   simpa [hy1,Value.cells] using h
  go_wp2
  clear hmk
  go_loopw [8] (fun z wr=>∃j:Nat,1≤j∧j≤L.length∧z=.int .i64 (j:Int)∧Hid (Arr wr (wx.heap.size+1) (dlS x.parent x.res L (j - 1)++List.replicate (L.length - j) 0))∧Hid (Chg [wx.heap.size+1] ((wx.alloc (.cells #[.slice A0 x.parent.length m0,.slice A1 x.res.length m1,.slice A2 x.cap.length m2,.slice A3 x.sink.length m3] 56)).alloc (.cells (madeCells #[.int .i64 0] L.length) 2)) wr)) (fun z _=>L.length - (intOf z).toNat)
  case atStart=>exact ⟨1,Nat.le_refl _,by omega,rfl,AR,hideIt (Chg.refl _ _)⟩
  case round =>
   obtain ⟨j,hj1,hj,rfl,hac,hch⟩:=hrel
   have CH:∀(a:Addr) (v:Value),((wx.alloc (.cells #[.slice A0 x.parent.length m0,.slice A1 x.res.length m1,.slice A2 x.cap.length m2,.slice A3 x.sink.length m3] 56))).cell? a=some v→wr.cell? a=some v∧a.block<wx.heap.size+1:=fun a v h=>by
    have h1:=cell_lt h
    rw [EB.out] at h1
    exact ⟨hch.out.cell (((Grows.refl _).alloc _).keeps _ _ h) (by simp;omega),h1⟩
   by_cases hlt:j<L.length
   ·obtain ⟨pp,hpp⟩:∃pp:Nat,x.parent.getD j 0=(pp:Int):=⟨(x.parent.getD j 0).toNat,by have:=(HT.out.par j (by omega) (by omega)).1;omega⟩
    have pplt:pp<j:=by have:=(HT.out.par j (by omega) (by omega)).2;rw [hpp] at this;simpa using this
    have hpk:x.parent[j]?=some (pp:Int):=by rw [←hpp];exact getD_at (by omega)
    obtain ⟨rv,hrv⟩:∃rv,rv=x.res.getD j 0:=⟨_,rfl⟩
    have hrk:x.res[j]?=some rv:=by rw [hrv];exact getD_at (by omega)
    obtain ⟨lv,hlv⟩:∃lv,lv=L.getD j 0:=⟨_,rfl⟩
    have hlk:L[j]?=some lv:=by rw [hlv];exact getD_at (by omega)
    have rb:=HT.out.rb j
    have lb:=LB.out j
    rw [←hrv] at rb
    rw [←hlv] at lb
    have mb1:=Int.mul_nonneg rb.1 lb.1
    have mb2:=Int.mul_le_mul rb.2 lb.2 lb.1 (by omega:(0:Int)≤1000)
    obtain ⟨i,hij⟩:∃i,j=i+1:=⟨j - 1,by omega⟩
    have ES:Hid (dlS x.parent x.res L j=dlS x.parent x.res L (j - 1)++[(dlS x.parent x.res L (j - 1)).getD pp 0+rv * lv]):=hideIt (by
     subst hij
     show dlS x.parent x.res L i++[(dlS x.parent x.res L i).getD (x.parent.getD (i+1) 0).toNat 0+x.res.getD (i+1) 0 * L.getD (i+1) 0]=_
     rw [hpp,←hrv,←hlv,Int.toNat_natCast,Nat.add_sub_cancel])
    have DLN:=dlS_len x.parent x.res L (j - 1)
    have dvb:=DB.out pp (j - 1) (by omega)
    obtain ⟨bk,ok,rfl,qk⟩:=ints_at hx5.out.open_.1 hpk
    obtain ⟨br,or_,rfl,qr⟩:=ints_at hx5.out.open_.2.1 hrk
    obtain ⟨bl,ol,rfl,ql⟩:=ints_at rl5.out hlk
    obtain ⟨qk,nk⟩:=CH _ _ qk
    obtain ⟨qr,nr⟩:=CH _ _ qr
    obtain ⟨ql,nl_⟩:=CH _ _ ql
    have qv0:=(CH _ _ (VB.out.cell 0)).1
    have qv1:=(CH _ _ (VB.out.cell 1)).1
    have nv:=BVL.out
    simp only at nk nr nl_
    have og:=hac.out.cell (j:=pp) (by rw [List.length_append];omega)
    have og2:=hac.out.cell (j:=j) (by rw [List.length_append,List.length_replicate];omega)
    rw [pad_getD (by omega)] at og
    have of_:=hac.out.frozen
    have ol_:=hac.out.lt
    have CELLB:=hideIt (fun (v:Int) (e:v=(dlS x.parent x.res L (j - 1)).getD pp 0+rv * lv)=>(by
     rw [ES.out,←e]
     have h:=arr_pad (p:=j) (v:=v) hac.out (by omega) (by omega)
     rw [show L.length - j - 1=L.length - (j+1) by omega] at h
     exact h:Arr (wr.setCell ⟨wx.heap.size+1,j,none⟩ (.int .i64 v)) (wx.heap.size+1) (dlS x.parent x.res L j++List.replicate (L.length - (j+1)) 0)))
    obtain ⟨dv,edv⟩:∃dv,dv=(dlS x.parent x.res L (j - 1)).getD pp 0:=⟨_,rfl⟩
    rw [←edv] at og dvb CELLB
    obtain ⟨zv,ezv⟩:∃zv,zv=(dlS x.parent x.res L (j - 1)++List.replicate (L.length - j) 0).getD j 0:=⟨_,rfl⟩
    rw [←ezv] at og2
    have wr1:IntKind.i64.wrap (rv * lv)=rv * lv:=Go.IntWalk.i64_in _ (by omega)
    have wr2:IntKind.i64.wrap (dv+rv * lv)=dv+rv * lv:=Go.IntWalk.i64_in _ (by omega)
    have l1:(j:Int)<(L.length:Int):=by omega
    have l2:(0:Int)≤(j:Int):=by omega
    have l3:(j:Int)<(x.parent.length:Int):=by omega
    have l4:(j:Int)<(x.res.length:Int):=by omega
    have l5:(pp:Int)<(L.length:Int):=by omega
    have l6:(0:Int)≤(pp:Int):=by omega
    have HJ:=hideIt (And.intro hj1 hlt)
    clear hpk hpp hrk hlk hrv hlv rb lb mb1 mb2 hij DLN dvb edv ezv
    have K0:∀w',Chg [wx.heap.size+1] wr w'→w'.cell? ⟨wx.heap.size,0,none⟩=some (.slice (some ⟨bk,ok,none⟩) x.parent.length m0)∧w'.cell? ⟨wx.heap.size,1,none⟩=some (.slice (some ⟨br,or_,none⟩) x.res.length m1)∧w'.cell? ⟨bk,ok+j,none⟩=some (.int .i64 (pp:Int))∧w'.cell? ⟨br,or_+j,none⟩=some (.int .i64 rv)∧w'.cell? ⟨bl,ol+j,none⟩=some (.int .i64 lv)∧Chg [wx.heap.size+1] wr w':=fun w' G=>⟨G.cell qv0 (by simp<;>omega),G.cell qv1 (by simp<;>omega),G.cell qk (by simp;omega),G.cell qr (by simp;omega),G.cell ql (by simp;omega),G⟩
    have HK:=hideIt K0
    clear K0 CH
    replace gg:Chg [wx.heap.size+1] wr wr:=Chg.refl _ _
    go_wp2
    refine wp_region_held_drew (S:=(fun w'=>w'.cell? ⟨wx.heap.size,0,none⟩=some (.slice (some ⟨bk,ok,none⟩) x.parent.length m0)∧w'.cell? ⟨wx.heap.size,1,none⟩=some (.slice (some ⟨br,or_,none⟩) x.res.length m1)∧w'.cell? ⟨bk,ok+j,none⟩=some (.int .i64 (pp:Int))∧w'.cell? ⟨br,or_+j,none⟩=some (.int .i64 rv)∧w'.cell? ⟨bl,ol+j,none⟩=some (.int .i64 lv)∧Chg [wx.heap.size+1] wr w')) (by kernel_rfl) ?_ (fun hh0=>?_)
    ·(try dsimp only);refine HK.out _ ?_;(repeat (first|exact gg|refine Chg.drew ?_|refine Chg.alloc ?_ _|refine Chg.setCell ?_ (by simp) _))
    refine regTk 0 hh0 ?_
    refine regTk 1 hh0 ?_
    refine regTk 2 hh0 ?_
    refine regTk 3 hh0 ?_
    refine regTk 4 hh0 ?_
    refine regTk 5 hh0 ?_
    refine regTk 6 hh0 ?_
    refine regTk 7 hh0 ?_
    refine regTk 8 hh0 ?_
    refine regTk 10 hh0 ?_
    refine regTk 11 hh0 ?_
    refine regTk 12 hh0 ?_
    refine regTk 13 hh0 ?_
    refine regTk 14 hh0 ?_
    refine regTk 15 hh0 ?_
    refine regTk 16 hh0 ?_
    refine regTk 17 hh0 ?_
    refine regTk 18 hh0 ?_
    refine regTk 19 hh0 ?_
    refine regCall 9 (fun K hK=>?_)
    go_simp
    (try go_wp2_with fail)
    refine hK.out _ _ ?_ (fun hh1=>?_)
    ·(try dsimp only);refine HK.out _ ?_;(repeat (first|exact gg|refine Chg.drew ?_|refine Chg.alloc ?_ _|refine Chg.setCell ?_ (by simp) _))
    clear hK K hh0
    try simp only [Act.put,List.setIfInBounds_toArray,List.set_cons_zero,List.set_cons_succ]
    refine regTk 20 hh1 ?_
    refine regTk 21 hh1 ?_
    refine regCall 22 (fun K hK=>?_)
    go_simp
    (try go_wp2_with fail)
    refine hK.out _ _ ?_ (fun hh2=>?_)
    ·(try dsimp only);refine HK.out _ ?_;(repeat (first|exact gg|refine Chg.drew ?_|refine Chg.alloc ?_ _|refine Chg.setCell ?_ (by simp) _))
    clear hK K hh1
    try simp only [Act.put,List.setIfInBounds_toArray,List.set_cons_zero,List.set_cons_succ]
    refine wpAnyH_done (by kernel_rfl) ?_ _
    clear hh2 HK
    go_wp2
    go_roundw
    case rel=>exact ⟨j+1,by omega,by have:=HJ.out.2;omega,by go_num,hideIt (by rw [Nat.add_sub_cancel];exact CELLB.out _ rfl),hideIt (Chg.trans hch.out (by (repeat (first|exact gg|refine Chg.drew ?_|refine Chg.alloc ?_ _|refine Chg.setCell ?_ (by simp) _))))⟩
    case measure=>have:=HJ.out.2;simp [intOf];omega
   ·obtain rfl:j=L.length:=by omega
    have AE:Hid (Arr wr (wx.heap.size+1) (delaysL cs d x (k:Int))):=hideIt (by
     have h:=hac.out
     rw [ED.out,Nat.sub_self,List.replicate_zero,List.append_nil] at h
     exact h)
    have LE:=hideIt (show L.length=(delaysL cs d x (k:Int)).length from by rw [←ED.out,dlS_len];omega)
    have GE:=hideIt (((G.out.trans G5.out).alloc _).chg hch.out (fun q hq=>by have:=SZ.out;simp at hq;subst hq;omega))
    have BL:=AE.out.lt
    go_wp2
    go_ret
    exact ⟨some ⟨wx.heap.size+1,0,none⟩,L.length,[wx.heap.size+1],ret_slice LE.out,arr_own AE.out (by rw [←LE.out];exact Nat.le_refl _) (by unfold maxLen;omega),Own.one (by have:=SZ.out;omega) BL,GE.out⟩
 ·go_simp
  (try go_wp2_with fail)
  refine hK.out _ _ ?_ (fun hh1=>?_)
  ·(try dsimp only);exact HK.out _ gk
  clear hK K hh0
  try simp only [Act.put,List.setIfInBounds_toArray,List.set_cons_zero,List.set_cons_succ]
  refine regCall 7 (fun K hK=>?_)
  go_simp
  refine (iLoads_any k _ (hl.out.keep (Grows.keeps gk)) (hd.out.keep (Grows.keeps gk)) (hw.out.keep (Grows.keeps gk)) BP.out HX.out).mono ?_
  rintro e wx ⟨A9,c9,b9,rfl,o,ow9,g⟩
  have ZB:Hid (Blk wx (w.heap.size+1) 56 #[.slice none 0 0,.slice none 0 0,.slice none 0 0,.slice none 0 0]):=hideIt (by
   have h:=(Blk.new (w.alloc (.cells #[.slice C cs.length nc,.slice I d.insts.length ni,.slice N d.nets.length nn,.slice O d.ports.length no,.slice (some ⟨bw,ow,none⟩) ws.length nw] 49)) 56 #[.slice none 0 0,.slice none 0 0,.slice none 0 0,.slice none 0 0]).grows (Grows.trans (by repeat (first|exact Grows.refl _|refine Grows.drew ?_)) g)
   simpa using h)
  have zc0:wx.cell? ⟨w.heap.size+1,0,none⟩=some (.slice none 0 0):=ZB.out.cell 0
  have zc1:wx.cell? ⟨w.heap.size+1,1,none⟩=some (.slice none 0 0):=ZB.out.cell 1
  have zc2:wx.cell? ⟨w.heap.size+1,2,none⟩=some (.slice none 0 0):=ZB.out.cell 2
  have zc3:wx.cell? ⟨w.heap.size+1,3,none⟩=some (.slice none 0 0):=ZB.out.cell 3
  have zf:=ZB.out.frozen
  replace gg:=gg.gt g
  clear g
  have HL9:=hideIt (loadsL_len (l:=cs) (d:=d) (n:=(k:Int)) (x:=x))
  obtain ⟨L,eL⟩:∃L:List Int,L=loadsL cs d x (k:Int):=⟨_,rfl⟩
  rw [←eL] at o ⊢
  have LB:=hideIt (fun q=>eL ▸ loadsL_bd DP.out HT.out q:∀q,0≤L.getD q 0∧L.getD q 0≤43000)
  have DB:=hideIt (fun q (i:Nat) (hi:i≤7)=>eL ▸ delay_bd DP.out HT.out hi q:∀q (i:Nat),i≤7→0≤(dlS x.parent x.res L i).getD q 0∧(dlS x.parent x.res L i).getD q 0≤301000000)
  have ll:L.length=x.cap.length:=by rw [eL];exact HL9.out
  have ll1:L.length≤x.parent.length:=by omega
  have ll2:x.parent.length≤L.length:=by omega
  have ED:=hideIt (show dlS x.parent x.res L (L.length - 1)=delaysL cs d x (k:Int) from by unfold delaysL;rw [ll,eL])
  have rl:=o.reads
  have OO:=hideIt o
  have DJ:Hid (∀q∈b9,q∉[w.heap.size+1]):=hideIt fun q hq hm=>by have h:=(ow9.2 q hq).1;simp at h hm;omega
  clear o ow9 HL9 ll eL
  replace rl:=hideIt rl
  (try go_wp2_with fail)
  refine hK.out _ _ ?_ (fun hh2=>?_)
  ·(try dsimp only);exact HK.out _ gk
  clear hK K hh1
  try simp only [Act.put,List.setIfInBounds_toArray,List.set_cons_zero,List.set_cons_succ]
  refine regCall 9 (fun K hK=>?_)
  go_simp
  (try go_wp2_with fail)
  refine hK.out _ _ ?_ (fun hh3=>?_)
  ·(try dsimp only);exact HK.out _ gk
  clear hK K hh2
  try simp only [Act.put,List.setIfInBounds_toArray,List.set_cons_zero,List.set_cons_succ]
  refine regTk 10 hh3 ?_
  refine wpAnyH_done (by kernel_rfl) ?_ _
  clear hh3 HK
  have VB:Hid (Blk ((((wx.setCell ⟨w.heap.size+1,0,none⟩ (.slice A0 x.parent.length m0)).setCell ⟨w.heap.size+1,1,none⟩ (.slice A1 x.res.length m1)).setCell ⟨w.heap.size+1,2,none⟩ (.slice A2 x.cap.length m2)).setCell ⟨w.heap.size+1,3,none⟩ (.slice A3 x.sink.length m3)) (w.heap.size+1) 56 #[.slice A0 x.parent.length m0,.slice A1 x.res.length m1,.slice A2 x.cap.length m2,.slice A3 x.sink.length m3]):=hideIt (by
   have h:=(((ZB.out.set_ 0 (.slice A0 x.parent.length m0)).set_ 1 (.slice A1 x.res.length m1)).set_ 2 (.slice A2 x.cap.length m2)).set_ 3 (.slice A3 x.sink.length m3)
   simpa using h)
  have c5:Chg [w.heap.size+1] wx ((((wx.setCell ⟨w.heap.size+1,0,none⟩ (.slice A0 x.parent.length m0)).setCell ⟨w.heap.size+1,1,none⟩ (.slice A1 x.res.length m1)).setCell ⟨w.heap.size+1,2,none⟩ (.slice A2 x.cap.length m2)).setCell ⟨w.heap.size+1,3,none⟩ (.slice A3 x.sink.length m3)):=((((Chg.refl _ _).setCell (by simp) _).setCell (by simp) _).setCell (by simp) _).setCell (by simp) _
  have rl5:=hideIt ((OO.out.same (c5.same OO.out.lt DJ.out)).reads)
  clear c5 zc0 zc1 zc2 zc3 zf
  have G5:Hid (Grows (w.alloc (.cells #[.slice C cs.length nc,.slice I d.insts.length ni,.slice N d.nets.length nn,.slice O d.ports.length no,.slice (some ⟨bw,ow,none⟩) ws.length nw] 49)) ((((wx.setCell ⟨w.heap.size+1,0,none⟩ (.slice A0 x.parent.length m0)).setCell ⟨w.heap.size+1,1,none⟩ (.slice A1 x.res.length m1)).setCell ⟨w.heap.size+1,2,none⟩ (.slice A2 x.cap.length m2)).setCell ⟨w.heap.size+1,3,none⟩ (.slice A3 x.sink.length m3))):=hideIt gk
  have hx5:=hideIt (hxr.out.keep G5.out.keeps)
  have EB:Hid ((((((wx.setCell ⟨w.heap.size+1,0,none⟩ (.slice A0 x.parent.length m0)).setCell ⟨w.heap.size+1,1,none⟩ (.slice A1 x.res.length m1)).setCell ⟨w.heap.size+1,2,none⟩ (.slice A2 x.cap.length m2)).setCell ⟨w.heap.size+1,3,none⟩ (.slice A3 x.sink.length m3))).heap.size=wx.heap.size):=hideIt (by simp)
  have SZ:Hid (w.heap.size+1≤wx.heap.size):=hideIt (by simpa using gg.size)
  have BVL:Hid (w.heap.size+1<wx.heap.size):=hideIt (by have h:=VB.out.lt;rw [EB.out] at h;exact h)
  have AR:Hid (Arr (((((wx.setCell ⟨w.heap.size+1,0,none⟩ (.slice A0 x.parent.length m0)).setCell ⟨w.heap.size+1,1,none⟩ (.slice A1 x.res.length m1)).setCell ⟨w.heap.size+1,2,none⟩ (.slice A2 x.cap.length m2)).setCell ⟨w.heap.size+1,3,none⟩ (.slice A3 x.sink.length m3)).alloc (.cells (madeCells #[.int .i64 0] L.length) 2)) (wx.heap.size) (dlS x.parent x.res L (1 - 1)++List.replicate (L.length - 1) 0)):=hideIt (by
   have h:=arr_zero ((((wx.setCell ⟨w.heap.size+1,0,none⟩ (.slice A0 x.parent.length m0)).setCell ⟨w.heap.size+1,1,none⟩ (.slice A1 x.res.length m1)).setCell ⟨w.heap.size+1,2,none⟩ (.slice A2 x.cap.length m2)).setCell ⟨w.heap.size+1,3,none⟩ (.slice A3 x.sink.length m3)) L.length
   rw [EB.out] at h
   obtain ⟨n,hn⟩:∃n,L.length=n+1:=⟨L.length - 1,by omega⟩
   rw [hn] at h ⊢
   exact h)
  have hmk:∀z:World,(Instr.makeSlice 39 (.int .i64 (L.length:Int)) (.int .i64 (L.length:Int))).run Tryz.prog z =
    .ok (.slice (some ⟨z.heap.size,0,none⟩) L.length L.length) (z.alloc (.cells (madeCells #[.int .i64 0] L.length) 2)):=fun z=>by
   have h:=run_make (P:=Tryz.prog) z 39 2 j0 (.int .i64 0) Tryz.underlying39 hj0 hy0 .i64 .i64 (L.length:Int) (L.length:Int) (by omega) (Int.le_refl _) (by rw [hy2];omega) (by omega)
   simpa [hy1,Value.cells] using h
  go_wp2
  clear hmk
  go_loopw [8] (fun z wr=>∃j:Nat,1≤j∧j≤L.length∧z=.int .i64 (j:Int)∧Hid (Arr wr (wx.heap.size) (dlS x.parent x.res L (j - 1)++List.replicate (L.length - j) 0))∧Hid (Chg [wx.heap.size] (((((wx.setCell ⟨w.heap.size+1,0,none⟩ (.slice A0 x.parent.length m0)).setCell ⟨w.heap.size+1,1,none⟩ (.slice A1 x.res.length m1)).setCell ⟨w.heap.size+1,2,none⟩ (.slice A2 x.cap.length m2)).setCell ⟨w.heap.size+1,3,none⟩ (.slice A3 x.sink.length m3)).alloc (.cells (madeCells #[.int .i64 0] L.length) 2)) wr)) (fun z _=>L.length - (intOf z).toNat)
  case atStart=>exact ⟨1,Nat.le_refl _,by omega,rfl,AR,hideIt (Chg.refl _ _)⟩
  case round =>
   obtain ⟨j,hj1,hj,rfl,hac,hch⟩:=hrel
   have CH:∀(a:Addr) (v:Value),(((((wx.setCell ⟨w.heap.size+1,0,none⟩ (.slice A0 x.parent.length m0)).setCell ⟨w.heap.size+1,1,none⟩ (.slice A1 x.res.length m1)).setCell ⟨w.heap.size+1,2,none⟩ (.slice A2 x.cap.length m2)).setCell ⟨w.heap.size+1,3,none⟩ (.slice A3 x.sink.length m3))).cell? a=some v→wr.cell? a=some v∧a.block<wx.heap.size:=fun a v h=>by
    have h1:=cell_lt h
    rw [EB.out] at h1
    exact ⟨hch.out.cell (((Grows.refl _).alloc _).keeps _ _ h) (by simp;omega),h1⟩
   by_cases hlt:j<L.length
   ·obtain ⟨pp,hpp⟩:∃pp:Nat,x.parent.getD j 0=(pp:Int):=⟨(x.parent.getD j 0).toNat,by have:=(HT.out.par j (by omega) (by omega)).1;omega⟩
    have pplt:pp<j:=by have:=(HT.out.par j (by omega) (by omega)).2;rw [hpp] at this;simpa using this
    have hpk:x.parent[j]?=some (pp:Int):=by rw [←hpp];exact getD_at (by omega)
    obtain ⟨rv,hrv⟩:∃rv,rv=x.res.getD j 0:=⟨_,rfl⟩
    have hrk:x.res[j]?=some rv:=by rw [hrv];exact getD_at (by omega)
    obtain ⟨lv,hlv⟩:∃lv,lv=L.getD j 0:=⟨_,rfl⟩
    have hlk:L[j]?=some lv:=by rw [hlv];exact getD_at (by omega)
    have rb:=HT.out.rb j
    have lb:=LB.out j
    rw [←hrv] at rb
    rw [←hlv] at lb
    have mb1:=Int.mul_nonneg rb.1 lb.1
    have mb2:=Int.mul_le_mul rb.2 lb.2 lb.1 (by omega:(0:Int)≤1000)
    obtain ⟨i,hij⟩:∃i,j=i+1:=⟨j - 1,by omega⟩
    have ES:Hid (dlS x.parent x.res L j=dlS x.parent x.res L (j - 1)++[(dlS x.parent x.res L (j - 1)).getD pp 0+rv * lv]):=hideIt (by
     subst hij
     show dlS x.parent x.res L i++[(dlS x.parent x.res L i).getD (x.parent.getD (i+1) 0).toNat 0+x.res.getD (i+1) 0 * L.getD (i+1) 0]=_
     rw [hpp,←hrv,←hlv,Int.toNat_natCast,Nat.add_sub_cancel])
    have DLN:=dlS_len x.parent x.res L (j - 1)
    have dvb:=DB.out pp (j - 1) (by omega)
    obtain ⟨bk,ok,rfl,qk⟩:=ints_at hx5.out.open_.1 hpk
    obtain ⟨br,or_,rfl,qr⟩:=ints_at hx5.out.open_.2.1 hrk
    obtain ⟨bl,ol,rfl,ql⟩:=ints_at rl5.out hlk
    obtain ⟨qk,nk⟩:=CH _ _ qk
    obtain ⟨qr,nr⟩:=CH _ _ qr
    obtain ⟨ql,nl_⟩:=CH _ _ ql
    have qv0:=(CH _ _ (VB.out.cell 0)).1
    have qv1:=(CH _ _ (VB.out.cell 1)).1
    have nv:=BVL.out
    simp only at nk nr nl_
    have og:=hac.out.cell (j:=pp) (by rw [List.length_append];omega)
    have og2:=hac.out.cell (j:=j) (by rw [List.length_append,List.length_replicate];omega)
    rw [pad_getD (by omega)] at og
    have of_:=hac.out.frozen
    have ol_:=hac.out.lt
    have CELLB:=hideIt (fun (v:Int) (e:v=(dlS x.parent x.res L (j - 1)).getD pp 0+rv * lv)=>(by
     rw [ES.out,←e]
     have h:=arr_pad (p:=j) (v:=v) hac.out (by omega) (by omega)
     rw [show L.length - j - 1=L.length - (j+1) by omega] at h
     exact h:Arr (wr.setCell ⟨wx.heap.size,j,none⟩ (.int .i64 v)) (wx.heap.size) (dlS x.parent x.res L j++List.replicate (L.length - (j+1)) 0)))
    obtain ⟨dv,edv⟩:∃dv,dv=(dlS x.parent x.res L (j - 1)).getD pp 0:=⟨_,rfl⟩
    rw [←edv] at og dvb CELLB
    obtain ⟨zv,ezv⟩:∃zv,zv=(dlS x.parent x.res L (j - 1)++List.replicate (L.length - j) 0).getD j 0:=⟨_,rfl⟩
    rw [←ezv] at og2
    have wr1:IntKind.i64.wrap (rv * lv)=rv * lv:=Go.IntWalk.i64_in _ (by omega)
    have wr2:IntKind.i64.wrap (dv+rv * lv)=dv+rv * lv:=Go.IntWalk.i64_in _ (by omega)
    have l1:(j:Int)<(L.length:Int):=by omega
    have l2:(0:Int)≤(j:Int):=by omega
    have l3:(j:Int)<(x.parent.length:Int):=by omega
    have l4:(j:Int)<(x.res.length:Int):=by omega
    have l5:(pp:Int)<(L.length:Int):=by omega
    have l6:(0:Int)≤(pp:Int):=by omega
    have HJ:=hideIt (And.intro hj1 hlt)
    clear hpk hpp hrk hlk hrv hlv rb lb mb1 mb2 hij DLN dvb edv ezv
    have K0:∀w',Chg [wx.heap.size] wr w'→w'.cell? ⟨w.heap.size+1,0,none⟩=some (.slice (some ⟨bk,ok,none⟩) x.parent.length m0)∧w'.cell? ⟨w.heap.size+1,1,none⟩=some (.slice (some ⟨br,or_,none⟩) x.res.length m1)∧w'.cell? ⟨bk,ok+j,none⟩=some (.int .i64 (pp:Int))∧w'.cell? ⟨br,or_+j,none⟩=some (.int .i64 rv)∧w'.cell? ⟨bl,ol+j,none⟩=some (.int .i64 lv)∧Chg [wx.heap.size] wr w':=fun w' G=>⟨G.cell qv0 (by simp<;>omega),G.cell qv1 (by simp<;>omega),G.cell qk (by simp;omega),G.cell qr (by simp;omega),G.cell ql (by simp;omega),G⟩
    have HK:=hideIt K0
    clear K0 CH
    replace gg:Chg [wx.heap.size] wr wr:=Chg.refl _ _
    go_wp2
    refine wp_region_held_drew (S:=(fun w'=>w'.cell? ⟨w.heap.size+1,0,none⟩=some (.slice (some ⟨bk,ok,none⟩) x.parent.length m0)∧w'.cell? ⟨w.heap.size+1,1,none⟩=some (.slice (some ⟨br,or_,none⟩) x.res.length m1)∧w'.cell? ⟨bk,ok+j,none⟩=some (.int .i64 (pp:Int))∧w'.cell? ⟨br,or_+j,none⟩=some (.int .i64 rv)∧w'.cell? ⟨bl,ol+j,none⟩=some (.int .i64 lv)∧Chg [wx.heap.size] wr w')) (by kernel_rfl) ?_ (fun hh0=>?_)
    ·(try dsimp only);refine HK.out _ ?_;(repeat (first|exact gg|refine Chg.drew ?_|refine Chg.alloc ?_ _|refine Chg.setCell ?_ (by simp) _))
    refine regTk 0 hh0 ?_
    refine regTk 1 hh0 ?_
    refine regTk 2 hh0 ?_
    refine regTk 3 hh0 ?_
    refine regTk 4 hh0 ?_
    refine regTk 5 hh0 ?_
    refine regTk 6 hh0 ?_
    refine regTk 7 hh0 ?_
    refine regTk 8 hh0 ?_
    refine regTk 10 hh0 ?_
    refine regTk 11 hh0 ?_
    refine regTk 12 hh0 ?_
    refine regTk 13 hh0 ?_
    refine regTk 14 hh0 ?_
    refine regTk 15 hh0 ?_
    refine regTk 16 hh0 ?_
    refine regTk 17 hh0 ?_
    refine regTk 18 hh0 ?_
    refine regTk 19 hh0 ?_
    refine regCall 9 (fun K hK=>?_)
    go_simp
    (try go_wp2_with fail)
    refine hK.out _ _ ?_ (fun hh1=>?_)
    ·(try dsimp only);refine HK.out _ ?_;(repeat (first|exact gg|refine Chg.drew ?_|refine Chg.alloc ?_ _|refine Chg.setCell ?_ (by simp) _))
    clear hK K hh0
    try simp only [Act.put,List.setIfInBounds_toArray,List.set_cons_zero,List.set_cons_succ]
    refine regTk 20 hh1 ?_
    refine regTk 21 hh1 ?_
    refine regCall 22 (fun K hK=>?_)
    go_simp
    (try go_wp2_with fail)
    refine hK.out _ _ ?_ (fun hh2=>?_)
    ·(try dsimp only);refine HK.out _ ?_;(repeat (first|exact gg|refine Chg.drew ?_|refine Chg.alloc ?_ _|refine Chg.setCell ?_ (by simp) _))
    clear hK K hh1
    try simp only [Act.put,List.setIfInBounds_toArray,List.set_cons_zero,List.set_cons_succ]
    refine wpAnyH_done (by kernel_rfl) ?_ _
    clear hh2 HK
    go_wp2
    go_roundw
    case rel=>exact ⟨j+1,by omega,by have:=HJ.out.2;omega,by go_num,hideIt (by rw [Nat.add_sub_cancel];exact CELLB.out _ rfl),hideIt (Chg.trans hch.out (by (repeat (first|exact gg|refine Chg.drew ?_|refine Chg.alloc ?_ _|refine Chg.setCell ?_ (by simp) _))))⟩
    case measure=>have:=HJ.out.2;simp [intOf];omega
   ·obtain rfl:j=L.length:=by omega
    have AE:Hid (Arr wr (wx.heap.size) (delaysL cs d x (k:Int))):=hideIt (by
     have h:=hac.out
     rw [ED.out,Nat.sub_self,List.replicate_zero,List.append_nil] at h
     exact h)
    have LE:=hideIt (show L.length=(delaysL cs d x (k:Int)).length from by rw [←ED.out,dlS_len];omega)
    have GE:=hideIt (((G.out.trans G5.out).alloc _).chg hch.out (fun q hq=>by have:=SZ.out;simp at hq;subst hq;omega))
    have BL:=AE.out.lt
    go_wp2
    go_ret
    exact ⟨some ⟨wx.heap.size,0,none⟩,L.length,[wx.heap.size],ret_slice LE.out,arr_own AE.out (by rw [←LE.out];exact Nat.le_refl _) (by unfold maxLen;omega),Own.one (by have:=SZ.out;omega) BL,GE.out⟩

end Go.Proofs.YtlnpefiipdkafaaGreatDoor
/-
  The program's NodeDelays.
-/
namespace Go.Proofs.YtlnpefiipdkafaaGreatDoor
open Go.RowKit

set_option maxHeartbeats 8000000 in
set_option maxRecDepth 10000 in
theorem iNodeDelays_any {lv a b c wv:Value} {cs:List CellD} {d:DesignD} {ws:List WireD} (n:Int) (w:World) (hl:RCells w lv cs) (hd:RDesign w [a,b,c] d) (hw:RWires w wv ws) (hsl:SmCells cs) (hsd:SmDesign d) :
  Calls Tryz.prog 26 #[.agg #[lv,a,b,c,wv],.int .i64 n] w fun e w'=>∃(A:Option Addr) (c:Nat) (bs:List Nat),e=.returned (.tuple #[.slice A (nodeDlV cs d ws n).length c,.int .i64 (codeV cs d ws n)])∧OInts w' (.slice A (nodeDlV cs d ws n).length c) (nodeDlV cs d ws n) bs∧Own w.heap.size w'.heap.size bs∧Grows w w':=by
 have cl:=RList.len hl
 have wl:=RList.len hw
 obtain ⟨C,nc,rfl⟩:∃(D:Option Addr) (q:Nat),lv=.slice D cs.length q:=by obtain ⟨D,q,e,-⟩:=RList.form hl;exact ⟨D,q,e⟩
 obtain ⟨W,nw,rfl⟩:∃(D:Option Addr) (q:Nat),wv=.slice D ws.length q:=by obtain ⟨D,q,e,-⟩:=RList.form hw;exact ⟨D,q,e⟩
 have nl:=RList.len hd.parts.2.1
 obtain ⟨I,N,O,ni,nn,no,rfl,rfl,rfl⟩:=des_open hd
 have SA:=hideIt hsl
 have SM:=hideIt hsd
 clear hsl hsd
 have g:Grows w w:=Grows.refl w
 have G:Hid (Grows w (w.alloc (.cells #[.slice C cs.length nc,.slice I d.insts.length ni,.slice N d.nets.length nn,.slice O d.ports.length no,.slice W ws.length nw] 49))):=hideIt ((Grows.refl w).alloc _)
 clear g
 have SB:Hid (Blk (w.alloc (.cells #[.slice C cs.length nc,.slice I d.insts.length ni,.slice N d.nets.length nn,.slice O d.ports.length no,.slice W ws.length nw] 49)) (w.heap.size) 49 #[.slice C cs.length nc,.slice I d.insts.length ni,.slice N d.nets.length nn,.slice O d.ports.length no,.slice W ws.length nw]):=by
  have:=(Blk.new w 49 #[.slice C cs.length nc,.slice I d.insts.length ni,.slice N d.nets.length nn,.slice O d.ports.length no,.slice W ws.length nw]).grows (Grows.refl (w.alloc (.cells #[.slice C cs.length nc,.slice I d.insts.length ni,.slice N d.nets.length nn,.slice O d.ports.length no,.slice W ws.length nw] 49)))
  exact hideIt (by simpa using this)
 replace hl:=hideIt (hl.keep G.out.keeps)
 replace hd:=hideIt (hd.keep G.out.keeps)
 replace hw:=hideIt (hw.keep G.out.keeps)
 go_enter Tryz.func26,Tryz.ntmps26
 go_wp2_with fail
 refine (iCode_any n _ hl.out hd.out hw.out SA.out SM.out).mono ?_
 rintro e u1 ⟨rfl,g⟩
 replace G:=hideIt (G.out.trans g)
 replace hl:=hideIt (hl.out.keep g.keeps)
 replace hd:=hideIt (hd.out.keep g.keeps)
 replace hw:=hideIt (hw.out.keep g.keeps)
 replace SB:=hideIt (SB.out.grows g)
 clear g
 have kSB_0:u1.cell? ⟨w.heap.size,0,none⟩=some (.slice C cs.length nc):=SB.out.cell 0
 have kSB_1:u1.cell? ⟨w.heap.size,1,none⟩=some (.slice I d.insts.length ni):=SB.out.cell 1
 have kSB_2:u1.cell? ⟨w.heap.size,2,none⟩=some (.slice N d.nets.length nn):=SB.out.cell 2
 have kSB_3:u1.cell? ⟨w.heap.size,3,none⟩=some (.slice O d.ports.length no):=SB.out.cell 3
 have kSB_4:u1.cell? ⟨w.heap.size,4,none⟩=some (.slice W ws.length nw):=SB.out.cell 4
 have fSB:=SB.out.frozen
 have lSB:w.heap.size<u1.heap.size:=SB.out.lt
 by_cases hc:codeV cs d ws n=0
 case neg =>
  have E2:=hideIt (show nodeDlV cs d ws n=_ from if_neg hc)
  obtain ⟨cd,ecd⟩:∃z:Int,z=codeV cs d ws n:=⟨_,rfl⟩
  have tc:(cd != 0)=true:=by rw [bne_iff_ne,ecd];exact hc
  rw [←ecd]
  have EC:=hideIt ecd
  clear ecd hc
  go_wp2
  refine bodyPost_ret (by simp [*,results,Tryz.results26,go_sem];try rfl) rfl ?_
  exact ⟨none,0,[],ret_sc (by rw [E2.out];rfl) EC.out,.inl ⟨by rw [E2.out];rfl,E2.out,rfl⟩,Own.nil,G.out⟩
 have EC:=hideIt hc
 obtain ⟨bp,k,rfl,klt⟩:=codeV_0 hc
 have BP:=hideIt bp
 obtain ⟨x,hx⟩:∃x,ws[k]?=some x:=⟨_,List.getElem?_eq_getElem klt⟩
 have E2:=hideIt (nodeDlV_at hc hx)
 have HX:=hideIt hx
 rw [hc]
 clear hc bp hx
 have LB:=hideIt G.out.size
 go_wp2_with fail
 clear kSB_0 kSB_1 kSB_2 kSB_3 kSB_4 fSB lSB
 refine (iDelays_any k _ hl.out hd.out hw.out BP.out HX.out).mono ?_
 rintro e u2 ⟨A9,c9,bs9,rfl,o,ow,g⟩
 replace G:=hideIt (G.out.trans g)
 replace hl:=hideIt (hl.out.keep g.keeps)
 replace hd:=hideIt (hd.out.keep g.keeps)
 replace hw:=hideIt (hw.out.keep g.keeps)
 replace SB:=hideIt (SB.out.grows g)
 have HO:=hideIt o
 have HW:=hideIt ow
 clear o ow
 clear g
 have kSB_0:u2.cell? ⟨w.heap.size,0,none⟩=some (.slice C cs.length nc):=SB.out.cell 0
 have kSB_1:u2.cell? ⟨w.heap.size,1,none⟩=some (.slice I d.insts.length ni):=SB.out.cell 1
 have kSB_2:u2.cell? ⟨w.heap.size,2,none⟩=some (.slice N d.nets.length nn):=SB.out.cell 2
 have kSB_3:u2.cell? ⟨w.heap.size,3,none⟩=some (.slice O d.ports.length no):=SB.out.cell 3
 have kSB_4:u2.cell? ⟨w.heap.size,4,none⟩=some (.slice W ws.length nw):=SB.out.cell 4
 have fSB:=SB.out.frozen
 have lSB:w.heap.size<u2.heap.size:=SB.out.lt
 have LE:=hideIt (show (delaysL cs d x (k:Int)).length=(nodeDlV cs d ws (k:Int)).length from by rw [E2.out])
 go_wp2
 refine bodyPost_ret (by simp [*,results,Tryz.results26,go_sem];try rfl) rfl ?_
 exact ⟨A9,c9,bs9,ret_sc LE.out EC.out.symm,by rw [E2.out];exact HO.out,HW.out.mono LB.out (Nat.le_refl _),G.out⟩

end Go.Proofs.YtlnpefiipdkafaaGreatDoor
