/-
  Draws of pairs of tables and of arcs.
-/
import Derived.Test.YtlnpefiipdkafaaGreatDoorOwnC
import Derived.Test.YtlnpefiipdkafaaGreatDoorDrawTA
import Derived.Test.YtlnpefiipdkafaaGreatDoorGC
namespace Go.Proofs.YtlnpefiipdkafaaGreatDoor
open Go.RowKit
theorem SrcAt.drew {w0 w : World} {b : Nat} (h : SrcAt w0 w b) : SrcAt w0 w.drew b := h.grows (Grows.drew (Grows.refl _))
theorem SrcAt.alloc {w0 w : World} {b : Nat} (h : SrcAt w0 w b) (o : Obj) : SrcAt w0 (w.alloc o) b := h.grows ((Grows.refl _).alloc o)
theorem at_w {P : Program} {n : Nat} {args : Array Value} {W : World} {Q : Ending → World → Prop} (st : World → Prop) (hW : st W) (h : ∀ u, st u → Calls P n args u Q) : Calls P n args W Q := h W hW
theorem at_c {P : Program} {c : Code} {a : Act} {W : World} {Q : Exit → Act → World → Prop} (st : World → Prop) (hW : st W) (h : ∀ u, st u → Code.wp P c Q a u) : Code.wp P c Q a W := h W hW
theorem OTable.chg {w w' : World} {cs : List Value} {t : TableD} {bs ds : List Nat} (h : OTable w cs t bs) (c : Chg ds w w') (hd : ∀ g ∈ bs, g ∉ ds) : OTable w' cs t bs := h.same (c.same h.lt hd)
theorem OTables.chg {w w' : World} {v : Value} {t : List TableD} {bs ds : List Nat} (h : OTables w v t bs) (c : Chg ds w w') (hd : ∀ g ∈ bs, g ∉ ds) : OTables w' v t bs := h.same (c.same h.lt hd)
theorem Own.off {lo hi b : Nat} {bs : List Nat} (h : Own lo hi bs) (hb : b < lo) : ∀ g ∈ bs, g ∉ [b] := fun g hg => by have := h.2 g hg; simp; omega
/-- what a drawn pair of tables promises -/
def TabsPost (w0 w : World) (b : Nat) (e : Ending) (w' : World) : Prop :=
  ∃ (g n : Nat) (ts : List TableD) (bs : List Nat), e = .returned (.slice (some ⟨g, 0, none⟩) 2 n) ∧ ts.length = 2 ∧ OTables w' (.slice (some ⟨g, 0, none⟩) 2 n) ts bs ∧ Own w.heap.size w'.heap.size bs ∧ (∀ t ∈ ts, bndT t) ∧ SrcAt w0 w' b ∧ Chg [b] w w'
set_option maxHeartbeats 2000000 in
theorem l03DrawTables_any {w0 w : World} {b : Nat} (base : Int) (h : SrcAt w0 w b) (s1 : -1000 ≤ base) (s2 : base ≤ 500) :
    Calls Tryz.prog 134 #[.pointer (some ⟨b, 0, none⟩), .int .i64 base] w (TabsPost w0 w b) := by
  have hlt : Hid (b < w.heap.size) := hideIt h.ge.2.2
  go_enter Tryz.func134, Tryz.ntmps134
  go_wp2_with fail
  refine (l02Draw_any (w0 := w0) base h s1 s2).mono ?_
  rintro e u1 ⟨a1, a2, a3, t1, b1, rfl, o1, w1, k1, h1, c1, -⟩
  obtain ⟨⟨A1, n1, rfl⟩, ⟨A2, n2, rfl⟩, ⟨A3, n3, rfl⟩⟩ := o1.shape
  have O1 := hideIt o1
  have W1 := hideIt w1
  have HS := hideIt h1
  have HC := hideIt c1
  clear o1 w1 h1 c1 h
  go_wp2
  refine at_c (fun u => Blk u u1.heap.size 136 #[.slice A1 t1.slews.length n1, .slice A2 t1.loads.length n2, .slice A3 t1.values.length n3] ∧ OTable u [.slice A1 t1.slews.length n1, .slice A2 t1.loads.length n2, .slice A3 t1.values.length n3] t1 b1 ∧ SrcAt w0 u b ∧ Chg [b] w u ∧ u1.heap.size + 1 = u.heap.size) ⟨Blk.new _ _ _, O1.out.same ((SameOn.refl _ _).grows O1.out.lt ((Grows.refl _).alloc _)), HS.out.alloc _, HC.out.alloc _, by simp⟩ (fun u2 hu => ?_)
  obtain ⟨kb, ko, ks, kc, kz⟩ := hu
  have S1 : Hid (w.heap.size ≤ u1.heap.size) := hideIt HC.out.size
  have NB : Hid (u1.heap.size ∉ [b]) := hideIt (by have := S1.out; have := hlt.out; simp; omega)
  have KB := hideIt kb
  have KO := hideIt ko
  have KS := hideIt ks
  have KC := hideIt kc
  have HK : Hid (∀ w', Chg [b] u2 w' → w'.cell? ⟨u1.heap.size, 0, none⟩ = some (.slice A1 t1.slews.length n1) ∧ w'.cell? ⟨u1.heap.size, 1, none⟩ = some (.slice A2 t1.loads.length n2) ∧ w'.cell? ⟨u1.heap.size, 2, none⟩ = some (.slice A3 t1.values.length n3)) := hideIt (fun w' c => ⟨(KB.out.chg c NB.out).cell 0, (KB.out.chg c NB.out).cell 1, (KB.out.chg c NB.out).cell 2⟩)
  clear kb ko ks kc HS HC O1
  refine wp_region_held_drew (S := (fun w' => w'.cell? ⟨u1.heap.size, 0, none⟩ = some (.slice A1 t1.slews.length n1) ∧ w'.cell? ⟨u1.heap.size, 1, none⟩ = some (.slice A2 t1.loads.length n2) ∧ w'.cell? ⟨u1.heap.size, 2, none⟩ = some (.slice A3 t1.values.length n3))) (by kernel_rfl) ?_ (fun hh0 => ?_)
  · (try dsimp only); exact HK.out _ (by repeat (first | exact gg | exact Chg.refl _ _ | refine Chg.drew ?_ | refine Chg.alloc ?_ _))
  refine regTk 0 hh0 ?_
  refine regTk 1 hh0 ?_
  refine regTk 2 hh0 ?_
  refine regCall 3 (fun K hK => ?_)
  go_simp
  refine (l02Draw_any (w0 := w0) base KS.out.drew s1 s2).mono ?_
  rintro e u3 ⟨c1, c2, c3, t2, b2, rfl, o2, w2, k2, h2, g2, -⟩
  obtain ⟨⟨C1, m1, rfl⟩, ⟨C2, m2, rfl⟩, ⟨C3, m3, rfl⟩⟩ := o2.shape
  have gg : Chg [b] u2 u3 := ((Chg.refl _ _).drew).trans g2
  (try go_wp2_with fail)
  refine hK.out _ _ ?_ (fun hh1 => ?_)
  · (try dsimp only); exact HK.out _ (by repeat (first | exact gg | exact Chg.refl _ _ | refine Chg.drew ?_ | refine Chg.alloc ?_ _))
  clear hK K hh0
  try simp only [Act.put, List.setIfInBounds_toArray, List.set_cons_zero, List.set_cons_succ]
  refine regCall 4 (fun K hK => ?_)
  go_simp
  
  (try go_wp2_with fail)
  refine hK.out _ _ ?_ (fun hh2 => ?_)
  · (try dsimp only); exact HK.out _ (by repeat (first | exact gg | exact Chg.refl _ _ | refine Chg.drew ?_ | refine Chg.alloc ?_ _))
  clear hK K hh1
  try simp only [Act.put, List.setIfInBounds_toArray, List.set_cons_zero, List.set_cons_succ]
  refine regTk 5 hh2 ?_
  refine wpAnyH_done (by kernel_rfl) ?_ _
  clear hh2
  go_wp2
  refine bodyPost_ret (by simp [*, results, Tryz.results134, go_sem]; try rfl) rfl ?_
  have q1 := S1.out
  have q3 := gg.size
  have kc2 := KC.out
  have ko2 := KO.out.chg gg (fun g hg => by have := W1.out.2 g hg; have := hlt.out; simp; omega)
  have own1 : Own w.heap.size u3.heap.size (b1 ++ b2) := (W1.out.append (w2.mono (lo' := u1.heap.size) (by simp; omega) (Nat.le_refl _)) q1 (by omega))
  have hh := (Grows.refl u3).alloc (.cells #[.slice A1 t1.slews.length n1, .slice A2 t1.loads.length n2, .slice A3 t1.values.length n3, .slice C1 t2.slews.length m1, .slice C2 t2.loads.length m2, .slice C3 t2.values.length m3] 136)
  have row := ORow.lit (sz := 3) (t := 136) (O := OTable) (lo := w.heap.size) (w := u3) (xs := [t1, t2]) (bss := [b1, b2]) (cs := #[.slice A1 t1.slews.length n1, .slice A2 t1.loads.length n2, .slice A3 t1.values.length n3, .slice C1 t2.slews.length m1, .slice C2 t2.loads.length m2, .slice C3 t2.values.length m3]) (Els.cons (es := [_, _, _]) rfl (ko2.same ((SameOn.refl _ _).grows ko2.lt hh)) (Els.cons (es := [_, _, _]) rfl (o2.same ((SameOn.refl _ _).grows o2.lt hh)) Els.nil)) (by simp [maxLen]) (by omega) (by simpa using own1)
  refine ⟨_, _, [t1, t2], _, rfl, rfl, row.list, row.own, fun t ht => ?_, h2.alloc _, (kc2.trans gg).alloc _⟩
  simp at ht
  rcases ht with rfl | rfl
  · exact k1
  · exact k2
def SmT (ts : List TableD) : Prop := ∀ t ∈ ts, bndT t
/-- what a drawn arc promises -/
def ArcPost (w0 w : World) (b : Nat) (kind src dst : Int) (e : Ending) (w' : World) : Prop :=
  ∃ (g n : Nat) (A : Option Addr) (n' : Nat) (sn : Int) (ts ss : List TableD) (bs : List Nat), e = .returned (.agg #[.int .i64 kind, .int .i64 src, .int .i64 dst, .int .i64 sn, .slice (some ⟨g, 0, none⟩) 2 n, .slice A ss.length n']) ∧
    OArc w' [.int .i64 kind, .int .i64 src, .int .i64 dst, .int .i64 sn, .slice (some ⟨g, 0, none⟩) 2 n, .slice A ss.length n'] ⟨kind, src, dst, sn, ts, ss⟩ bs ∧ ts.length = 2 ∧ ss.length ≤ 2 ∧ SmT ts ∧ SmT ss ∧ Own w.heap.size w'.heap.size bs ∧ SrcAt w0 w' b ∧ Chg [b] w w'
set_option maxHeartbeats 4000000 in
theorem l03DrawArc_any {w0 w : World} {b : Nat} (kind src dst sense : Int) (h : SrcAt w0 w b) :
    Calls Tryz.prog 119 #[.pointer (some ⟨b, 0, none⟩), .int .i64 kind, .int .i64 src, .int .i64 dst, .int .i64 sense] w (ArcPost w0 w b kind src dst) := by
  have hlt : Hid (b < w.heap.size) := hideIt h.ge.2.2
  have HG : Hid (w0.heap.size ≤ w.heap.size) := hideIt h.ge.2.1.size
  have HS := hideIt (h.alloc (.cells #[.int .i64 0, .int .i64 0, .int .i64 0, .int .i64 0, .slice none 0 0, .slice none 0 0] 134))
  have HC : Hid (Chg [b] w (w.alloc (.cells #[.int .i64 0, .int .i64 0, .int .i64 0, .int .i64 0, .slice none 0 0, .slice none 0 0] 134))) := hideIt ((Chg.refl _ _).alloc _)
  have R := hideIt (Blk.new w 134 #[.int .i64 0, .int .i64 0, .int .i64 0, .int .i64 0, .slice none 0 0, .slice none 0 0])
  have NR : Hid (w.heap.size ∉ [b]) := hideIt (by have := hlt.out; simp; omega)
  clear h
  by_cases hk : 4 ≤ kind
  · go_enter Tryz.func119, Tryz.ntmps119
    go_wp2_with fail
    refine (l01Next_any (w0 := w0) 10 HS.out).mono ?_
    rintro e u1 ⟨r1, rfl, r1a, r1b, h_, c_⟩
    replace HS := hideIt h_
    replace HC := hideIt (HC.out.trans c_)
    replace R := hideIt (R.out.chg c_ NR.out)
    have S1 : Hid (w.heap.size + 1 ≤ u1.heap.size) := hideIt (by simpa using c_.size)
    clear h_ c_
    have r1c := r1b (by omega)
    clear r1b
    go_wp2_with fail
    refine (l03DrawTables_any (w0 := w0) _ HS.out (by omega) (by omega)).mono ?_
    rintro e u2 ⟨g, n, ts, bs, rfl, tl, ot, ow, sm, h_, c_⟩
    replace HS := hideIt h_
    replace HC := hideIt (HC.out.trans c_)
    replace R := hideIt (R.out.chg c_ NR.out)
    have OT := hideIt ot
    have OW := hideIt ow
    have S2 : Hid (u1.heap.size ≤ u2.heap.size) := hideIt c_.size
    clear h_ c_ ot ow
    have fR := R.out.frozen
    have lR := R.out.lt
    have k0 := R.out.cell 0
    have k1 := R.out.cell 1
    have k2 := R.out.cell 2
    have k3 := R.out.cell 3
    have k4 := R.out.cell 4
    have k5 := R.out.cell 5
    simp at k0 k1 k2 k3 k4 k5
    go_wp2
    refine bodyPost_ret (by simp [*, results, Tryz.results119, go_sem]; try rfl) rfl ?_
    have key : ∀ w9, Chg [w.heap.size] u2 w9 → u2.heap.size = w9.heap.size → Chg [b] w w9 → ArcPost w0 w b kind src dst (.returned (.agg #[.int .i64 kind, .int .i64 src, .int .i64 dst, .int .i64 0, .slice (some ⟨g, 0, none⟩) 2 n, .slice none 0 0])) w9 := fun w9 c9 e9 h9 => by
      have q1 := S1.out
      have q2 := S2.out
      refine ⟨g, n, none, 0, 0, ts, [], bs, rfl, ⟨_, _, bs, [], rfl, OT.out.chg c9 (fun g hg => by have := OW.out.2 g hg; simp; omega), .inl ⟨rfl, rfl, rfl⟩, by simp⟩, tl, by simp, sm, (fun _ ht => nomatch ht), OW.out.mono (by omega) (by omega), HS.out.chg c9 (by have := hlt.out; simp; omega) (fun g hg => by simp at hg; subst hg; exact HG.out), h9⟩
    refine key _ ?_ ?_ ?_
    · repeat (first | refine Chg.setCell ?_ (by simp) _ | with_reducible exact Chg.refl _ _)
    · simp [World.setCell]
    · repeat (first | refine Chg.setNew ?_ (by simp) _ | with_reducible exact HC.out)
  · go_enter Tryz.func119, Tryz.ntmps119
    go_wp2_with fail
    refine (l01Next_any (w0 := w0) 20 HS.out).mono ?_
    rintro e u1 ⟨r1, rfl, r1a, r1b, h_, c_⟩
    replace HS := hideIt h_
    replace HC := hideIt (HC.out.trans c_)
    replace R := hideIt (R.out.chg c_ NR.out)
    have S1 : Hid (w.heap.size + 1 ≤ u1.heap.size) := hideIt (by simpa using c_.size)
    clear h_ c_
    have r1c := r1b (by omega)
    clear r1b
    go_wp2_with fail
    refine (l03DrawTables_any (w0 := w0) _ HS.out (by omega) (by omega)).mono ?_
    rintro e u2 ⟨g, n, ts, bs, rfl, tl, ot, ow, sm, h_, c_⟩
    replace HS := hideIt h_
    replace HC := hideIt (HC.out.trans c_)
    replace R := hideIt (R.out.chg c_ NR.out)
    have OT := hideIt ot
    have OW := hideIt ow
    have S2 : Hid (u1.heap.size ≤ u2.heap.size) := hideIt c_.size
    have lt2 : Hid (b < u1.heap.size) := hideIt (by have := hlt.out; have := S1.out; omega)
    clear h_ c_ ot ow
    go_wp2_with fail
    refine (l03DrawTables_any (w0 := w0) 10 HS.out (by omega) (by omega)).mono ?_
    rintro e u3 ⟨g2, n2, ss, bs2, rfl, sl, ot, ow, sm2, h_, c_⟩
    replace HS := hideIt h_
    replace HC := hideIt (HC.out.trans c_)
    replace R := hideIt (R.out.chg c_ NR.out)
    replace OT := hideIt (OT.out.chg c_ (OW.out.off lt2.out))
    have OT2 := hideIt ot
    have OW2 := hideIt ow
    have S3 : Hid (u2.heap.size ≤ u3.heap.size) := hideIt c_.size
    clear h_ c_ ot ow
    have fR := R.out.frozen
    have lR := R.out.lt
    have k0 := R.out.cell 0
    have k1 := R.out.cell 1
    have k2 := R.out.cell 2
    have k3 := R.out.cell 3
    have k4 := R.out.cell 4
    have k5 := R.out.cell 5
    simp at k0 k1 k2 k3 k4 k5
    go_wp2
    refine bodyPost_ret (by simp [*, results, Tryz.results119, go_sem]; try rfl) rfl ?_
    have key : ∀ w9, Chg [w.heap.size] u3 w9 → u3.heap.size = w9.heap.size → Chg [b] w w9 → ArcPost w0 w b kind src dst (.returned (.agg #[.int .i64 kind, .int .i64 src, .int .i64 dst, .int .i64 sense, .slice (some ⟨g, 0, none⟩) 2 n, .slice (some ⟨g2, 0, none⟩) 2 n2])) w9 := fun w9 c9 e9 h9 => by
      have q1 := S1.out
      have q2 := S2.out
      have q3 := S3.out
      refine ⟨g, n, some ⟨g2, 0, none⟩, n2, sense, ts, ss, bs ++ bs2, by rw [sl], ⟨_, _, bs, bs2, rfl, OT.out.chg c9 (fun g hg => by have := OW.out.2 g hg; simp; omega), by rw [sl]; exact OT2.out.chg c9 (fun g hg => by have := OW2.out.2 g hg; simp; omega), by simp⟩, tl, by omega, sm, sm2, ((OW.out.append OW2.out q2 q3).mono (by omega) (by omega)), HS.out.chg c9 (by have := hlt.out; simp; omega) (fun g hg => by simp at hg; subst hg; exact HG.out), h9⟩
    refine key _ ?_ ?_ ?_
    · repeat (first | refine Chg.setCell ?_ (by simp) _ | with_reducible exact Chg.refl _ _)
    · simp [World.setCell]
    · repeat (first | refine Chg.setNew ?_ (by simp) _ | with_reducible exact HC.out)
end Go.Proofs.YtlnpefiipdkafaaGreatDoor
