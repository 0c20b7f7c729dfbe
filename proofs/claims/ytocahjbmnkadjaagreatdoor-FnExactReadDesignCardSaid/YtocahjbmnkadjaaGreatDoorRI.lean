/-
  The program's reading of a design: a range over the text's lines.
-/
import Derived.Test.YtocahjbmnkadjaaGreatDoorReadL
import Derived.Test.YtocahjbmnkadjaaGreatDoorRF
import Derived.Test.YtocahjbmnkadjaaGreatDoorRB
import Derived.Test.YtocahjbmnkadjaaGreatDoorRH
import Derived.Test.YtocahjbmnkadjaaGreatDoorIDes
import Derived.Test.YtocahjbmnkadjaaGreatDoorGN
import Derived.Test.YtocahjbmnkadjaaGreatDoorGuess
import Derived.Test.YtocahjbmnkadjaaGreatDoorSDes
import Derived.Test.YtocahjbmnkadjaaGreatDoorRG
import Derived.Test.YtocahjbmnkadjaaGreatDoorMarkV
namespace Go.Proofs.YtocahjbmnkadjaaGreatDoor
open Go Go.RowKit Go.Shelf
attribute [local go_sem] Oper.semAt_some
/-- these blocks hold cells -/
def CellsAll (bs : List Nat) (w : World) : Prop := ∀ q ∈ bs, ∃ o : Obj, w.heap[q]? = some o ∧ o.isCells = true
theorem OList.cellsAll {α : Type} {sz : Nat} {t : TypeId} {O : World → List Value → α → List Nat → Prop} {w : World} {v : Value} {xs : List α} {bs : List Nat} (h : OList sz t O w v xs bs) (hO : ∀ es x b, O w es x b → CellsAll b w) : CellsAll bs w := by
  rcases h with ⟨_, _, rfl⟩ | ⟨g, c, cs, bss, hv, h1, h2, hb, hl, rfl, hc⟩
  · intro q hq; cases hq
  · intro q hq
    rcases List.mem_cons.1 hq with rfl | hq
    · exact ⟨_, hb, rfl⟩
    · obtain ⟨b, hb, hq⟩ := List.mem_flatten.1 hq
      obtain ⟨i, hi⟩ := List.getElem?_of_mem hb
      have hlt : i < xs.length := by have := (List.getElem?_eq_some_iff.1 hi).1; omega
      obtain ⟨es, b', _, _, hbi, ho⟩ := hc i _ (List.getElem?_eq_getElem hlt)
      rw [hi] at hbi
      injection hbi with hbi
      subst hbi
      exact hO _ _ _ ho q hq
theorem OInst.cellsAll {w : World} {es : List Value} {x : InstD} {b : List Nat} (h : OInst w es x b) : CellsAll b w := by
  obtain ⟨v, b2, -, -, h, rfl⟩ := h
  exact OList.cellsAll h fun _ _ _ h q hq => by rw [h.2] at hq; cases hq
theorem ODesign.cellsAll {w : World} {es : List Value} {d : DesignD} {b : List Nat} (h : ODesign w es d b) : CellsAll b w := by
  obtain ⟨v0, v1, v2, b0, b1, b2, -, h0, h1, h2, rfl⟩ := h
  intro q hq
  simp only [List.mem_append] at hq
  rcases hq with (hq | hq) | hq
  · exact OList.cellsAll h0 (fun _ _ _ h => h.cellsAll) q hq
  · exact OList.cellsAll h1 (fun _ _ _ h q hq => by rw [h.2.2] at hq; cases hq) q hq
  · exact OList.cellsAll h2 (fun _ _ _ h q hq => by rw [h.2.2] at hq; cases hq) q hq
theorem CellsAll.ne {bs : List Nat} {w : World} {r : Nat} {o : Obj} (h : CellsAll bs w) (hr : w.heap[r]? = some o) (ho : o.isCells = false) : ∀ q ∈ bs, q ≠ r := by
  rintro q hq rfl
  obtain ⟨o', h1, h2⟩ := h q hq
  rw [hr] at h1
  injection h1 with h1
  subst h1
  rw [ho] at h2
  cases h2
/-- the rows stay while what is no cells turns -/
theorem RSt.turn {lo : Nat} {w w' : World} {vi vn vp : Value} {d : DesignD} {row : Option Nat} (h : RSt lo [] w vi vn vp d) (g : w.grownBy w' row) (hr : ∀ r, row = some r → ∃ o : Obj, w.heap[r]? = some o ∧ o.isCells = false) : RSt lo [] w' vi vn vp d := by
  obtain ⟨r, h1, h2, h3, h4⟩ := h
  have key : ∀ bs : List Nat, CellsAll bs w → (∀ q ∈ bs, q < w.heap.size) → SameOn bs w w' := fun bs hc hl q hq => g.block q (hl q hq) fun e => by
    obtain ⟨o, ho, hn⟩ := hr q e.symm
    exact hc.ne ho hn q hq rfl
  have hlt : ∀ q ∈ [] ++ (vn.ownBlock.toList ++ (vp.ownBlock.toList ++ (vi.ownBlock.toList ++ r))), q < w.heap.size := fun q hq => (h4.2 q hq).2
  refine ⟨r, RW.keep h1 (key _ (OList.cellsAll (RW.list h1) fun _ _ _ h => h.cellsAll) (fun q hq => hlt q (by simp at hq ⊢; rcases hq with h | h <;> simp [h]))) (fun _ _ _ h g => h.same g),
    RW.keep h2 (key _ (OList.cellsAll (RW.list h2) fun _ _ _ h q hq => by rw [h.2.2] at hq; cases hq) (fun q hq => hlt q (by simp at hq ⊢; simp [hq]))) (fun _ _ _ h _ => h),
    RW.keep h3 (key _ (OList.cellsAll (RW.list h3) fun _ _ _ h q hq => by rw [h.2.2] at hq; cases hq) (fun q hq => hlt q (by simp at hq ⊢; simp [hq]))) (fun _ _ _ h _ => h), h4.mono (Nat.le_refl _) g.size⟩
/-- between two rounds -/
def RRd (U : World) (cs : List CellD) (bd b : Nat) (pre : List ByteArray) (W : World) : Prop :=
  Chg [bd, b] U W ∧ ∃ vi vn vp, Blk W bd 30 #[vi, vn, vp] ∧ RSt U.heap.size [] W vi vn vp (upD cs (pre.map trimB))
theorem RRd.from {U : World} {cs : List CellD} {bd b : Nat} (hbd : bd < U.heap.size) : OwnFrom U.heap.size (RRd U cs bd b) := by
  rintro pre A B row ⟨c, vi, vn, vp, hb, hr⟩ hg hrow
  refine ⟨c.grown hg (fun k e => .inr (hrow k e).1), vi, vn, vp, blk_grown hb hg (fun k e => by have := (hrow k e).1; omega), hr.turn hg (fun r e => (hrow r e).2)⟩
theorem RRd.box {U : World} {cs : List CellD} {bd b : Nat} (hb : b < U.heap.size) (hne : bd ≠ b) (pre : List ByteArray) (A : World) (v : Value) (h : RRd U cs bd b pre A) : RRd U cs bd b pre (A.setCell ⟨b, 0, none⟩ v) := by
  obtain ⟨c, vi, vn, vp, h1, h2⟩ := h
  exact ⟨c.setCell (by simp) _, vi, vn, vp, h1.far hne _, h2.chg (ds := [b]) ((Chg.refl _ _).setCell (by simp) _) (by simpa using hb)⟩
theorem RRd.start {U : World} {cs : List CellD} {bd b : Nat} (hb : Blk U bd 30 #[.slice none 0 0, .slice none 0 0, .slice none 0 0]) : RRd U cs bd b [] U := ⟨Chg.refl _ _, _, _, _, hb, RSt.start⟩
theorem new4 {w : World} {a b c d : Array Value} {ta tb tc td : TypeId} : Grows w ((((w.alloc (.cells a ta)).alloc (.cells b tb)).alloc (.cells c tc)).alloc (.cells d td)) ∧ Blk ((((w.alloc (.cells a ta)).alloc (.cells b tb)).alloc (.cells c tc)).alloc (.cells d td)) w.heap.size ta a ∧ Blk ((((w.alloc (.cells a ta)).alloc (.cells b tb)).alloc (.cells c tc)).alloc (.cells d td)) (w.heap.size + 1) tb b ∧
    Blk ((((w.alloc (.cells a ta)).alloc (.cells b tb)).alloc (.cells c tc)).alloc (.cells d td)) (w.heap.size + 2) tc c ∧ Blk ((((w.alloc (.cells a ta)).alloc (.cells b tb)).alloc (.cells c tc)).alloc (.cells d td)) (w.heap.size + 3) td d ∧ ((((w.alloc (.cells a ta)).alloc (.cells b tb)).alloc (.cells c tc)).alloc (.cells d td)).heap.size = w.heap.size + 4 := by
  refine ⟨((((Grows.refl w).alloc _).alloc _).alloc _).alloc _, (Blk.new w ta a).grows ((((Grows.refl _).alloc _).alloc _).alloc _), ?_, ?_, ?_, by simp⟩
  · have h := (Blk.new (w.alloc (.cells a ta)) tb b).grows (((Grows.refl _).alloc (.cells c tc)).alloc (.cells d td))
    rwa [World.size_alloc] at h
  · have h := (Blk.new ((w.alloc (.cells a ta)).alloc (.cells b tb)) tc c).grows ((Grows.refl _).alloc (.cells d td))
    rwa [World.size_alloc, World.size_alloc] at h
  · have h := Blk.new (((w.alloc (.cells a ta)).alloc (.cells b tb)).alloc (.cells c tc)) td d
    rwa [World.size_alloc, World.size_alloc, World.size_alloc] at h
theorem linesL_small {c : UInt8} : ∀ {l : List UInt8} {x : List UInt8}, x ∈ linesL c l → x.length ≤ l.length
  | [], x, h => by cases h
  | y :: l, x, h => by
    unfold linesL at h
    split at h
    · rcases List.mem_cons.1 h with rfl | h
      · simp
      · have := linesL_small h
        rw [List.length_cons]
        omega
    · cases hs : linesL c l with
      | nil =>
        rw [hs] at h
        rw [List.mem_singleton.1 h]
        simp
      | cons a t =>
        rw [hs] at h
        rcases List.mem_cons.1 h with rfl | h
        · have := linesL_small (c := c) (l := l) (x := a) (by rw [hs]; exact List.mem_cons_self ..)
          rw [List.length_cons, List.length_cons]
          omega
        · have := linesL_small (c := c) (l := l) (x := x) (by rw [hs]; exact List.mem_cons_of_mem _ h)
          rw [List.length_cons]
          omega
theorem lines_small {s p : ByteArray} (h : p ∈ linesB s) : p.size ≤ s.size := by
  unfold linesB at h
  obtain ⟨x, hx, rfl⟩ := List.mem_map.1 h
  have := linesL_small hx
  rw [mkB_size]
  have := dsize s
  omega
theorem round_end {U W w' : World} {cs : List CellD} {bd b : Nat} {pre : List ByteArray} {x : ByteArray} {vi vn vp : Value} (hb : b < U.heap.size) (hne : b ≠ bd) (hlo : U.heap.size ≤ W.heap.size) (c : Chg [bd, b] U W) (kp : Kp U.heap.size bd W.drew w') (hb' : Blk w' bd 30 #[vi, vn, vp]) (hr' : RSt U.heap.size [] w' vi vn vp (stepD cs (upD cs (pre.map trimB)) (piecesB 32 (trimB x)))) {a : Act} :
    boxRound b (RRd U cs bd b) (pre ++ [x]) W .normal a w' := by
  refine ⟨(KeepsOthers.drew W).trans kp.ot, kp.block hb hne (by show _ < W.heap.size; omega), Kp.chg (c.drew) kp (by simp), vi, vn, vp, hb', ?_⟩
  rw [List.map_append, List.map_singleton, upD_snoc]
  exact hr'
theorem at_in {F : Fence} {n : Nat} {P : Program} {c : Code} {Q : Exit → Act → World → Prop} {a : Act} {W : World} (st : World → Prop) (hW : st W) (h : ∀ u, st u → Code.wpIn F n P c Q a u) : Code.wpIn F n P c Q a W := h W hW
theorem trim_eq (s : ByteArray) : (⟨(Lib.trimSuffix s.data.toList (⟨#[10]⟩ : ByteArray).data.toList).toArray⟩ : ByteArray) = trimB s := rfl
/-- what reading gives: the design, if there is one -/
def DesPost (cs : List CellD) (s : ByteArray) (w : World) (e : Ending) (w' : World) : Prop :=
  ∃ vi vn vp bs, e = .returned (.tuple #[.agg #[vi, vn, vp], .bool (okD cs s)]) ∧ ODesign w' [vi, vn, vp] (if okD cs s = true then upD cs (piecesB 10 s) else noD) bs ∧ Own w.heap.size w'.heap.size bs ∧ Grows w w'
theorem noD_own {w : World} : ODesign w [.slice none 0 0, .slice none 0 0, .slice none 0 0] noD [] := ⟨_, _, _, [], [], [], rfl, .inl ⟨rfl, rfl, rfl⟩, .inl ⟨rfl, rfl, rfl⟩, .inl ⟨rfl, rfl, rfl⟩, rfl⟩
/-- the rounds' list of deferred calls is put away -/
theorem des_fin {w V : World} {D r : Nat} {t : TypeId} {cs : Array Value} {es : List Value} {d : DesignD} {bs : List Nat} (hK : V.heap[D]? = some (.deferred (some []))) (hD : w.heap.size ≤ D) (hB : Blk V r t cs) (hO : ODesign V es d bs) (hw : Own w.heap.size V.heap.size bs) (g : Grows w V) :
    Blk (V.putObj D (.deferred none)) r t cs ∧ ODesign (V.putObj D (.deferred none)) es d bs ∧ Own w.heap.size (V.putObj D (.deferred none)).heap.size bs ∧ Grows w (V.putObj D (.deferred none)) := by
  refine ⟨(World.putObj_heap_other ?_).trans hB, hO.same (fun q hq => World.putObj_heap_other (hO.cellsAll.ne hK rfl q hq)), ?_, Below.trans g (belowK_b (w := w) (Nat.le_refl _) V D _ _ hD hK rfl rfl)⟩
  · rintro rfl
    rw [show V.heap[r]? = _ from hB] at hK
    cases hK
  · have e : (V.putObj D (.deferred none)).heap.size = V.heap.size := by simp [World.putObj]
    rw [e]
    exact hw
set_option maxHeartbeats 8000000 in
set_option maxRecDepth 100000 in
theorem readDes_any {lv : Value} {cs : List CellD} (s : ByteArray) (w : World) (hl : RCells w lv cs) (hsl : SmCells cs) (hs : s.size ≤ 6000) (hm : TM w) :
    Calls Tryz.prog 20 #[.agg #[lv], .string s] w (DesPost cs s w) := by
  refine (callsIn_wide (n := 3)).1 ?_
  refine callsIn_of_wp_marks Tryz.func20 rfl trivial ?_ rfl
  simp only [Tryz.ntmps20, List.size_toArray, List.length_cons, List.length_nil, Nat.reduceAdd, Nat.reduceSub, Array.replicate_succ, Array.replicate_zero, List.push_toArray, List.append_toArray, List.nil_append, List.cons_append]
  have HL := hideIt hl
  have HM := hideIt hm
  have HSL := hideIt hsl
  clear hl hm hsl
  gi_wp2_with (refine ⟨trivial, ?_⟩; gi_at_call 42; refine (callsIn_wide.2 (lines_any _ _)).mono ?_; rintro e w' ⟨rfl, rfl⟩)
  refine at_in (fun U => Grows w U ∧ Blk U w.heap.size 35 #[lv] ∧ Blk U (w.heap.size + 1) 30 #[.slice none 0 0, .slice none 0 0, .slice none 0 0] ∧ Blk U (w.heap.size + 2) 30 #[.slice none 0 0, .slice none 0 0, .slice none 0 0] ∧ Boxed U (w.heap.size + 3) 9 (.string s) ∧ U.heap.size = w.heap.size + 4) ?_ (fun U hU => ?_)
  · exact new4
  obtain ⟨gU, b0, b1, b2, b3, zU⟩ := hU
  have hb2 : w.heap.size + 2 < U.heap.size := by omega
  have hb3 : w.heap.size + 3 < U.heap.size := by omega
  refine wpIn_rangeFunc_box (b := w.heap.size + 3) (xs := linesB s) rfl (by decide) (gf := 68) (lb := #[.pointer (some ⟨w.heap.size + 3, 0, none⟩)]) rfl trivial (enters_of Tryz.func68 (by kernel_rfl) rfl)
    (lines_box _ (by decide) (w.heap.size + 3) s (by omega)) (fun _ => rfl) b3 (RRd U cs (w.heap.size + 2) (w.heap.size + 3)) (RRd.from hb2) (RRd.box hb3 (by omega)) (RRd.start b2)
    (fun x => { tmps := #[.agg #[lv], .string s, .pointer (some ⟨w.heap.size, 0, none⟩), undef, .pointer (some ⟨w.heap.size + 1, 0, none⟩), .bool false, .pointer (some ⟨w.heap.size + 2, 0, none⟩), .string x, .string s, .func (.func 68) #[] #[.pointer (some ⟨w.heap.size + 3, 0, none⟩)], .string x, undef, undef, undef, undef, undef, undef, undef, undef, undef, undef, undef, undef, undef, undef, undef, undef, undef], defers := [] }) ?assign ?body ?done
  case assign =>
    intro l x W K hK
    gi_wp2
    exact hK
  case body =>
    rintro l pre x W ⟨c, vi, vn, vp, hb, hr⟩ hpre
    have gW : Grows w W := gU.chg c (by simp <;> omega)
    have hlo : U.heap.size ≤ W.heap.size := c.size
    have hx : x ∈ linesB s := hpre.subset (List.mem_append_right _ (List.mem_singleton_self x))
    have hxs : (trimB x).size ≤ 6000 := Nat.le_trans (pieces_small (lines_in hx)) hs
    have hxx : x.size ≤ 9223372036854775807 := by have := lines_small hx; omega
    have hsz : SzD 6001 6001 (upD cs (pre.map trimB)) := upD_read cs _ hs (((List.prefix_append pre [x]).trans hpre).map trimB)
    have bL := b0.chg c (by simp <;> omega)
    have cL := bL.cell 0
    simp at cL
    have BB := hideIt hb
    have RR := hideIt hr
    have CC := hideIt c
    have GW := hideIt gW
    have SZ := hideIt hsz
    have XS := hideIt hxs
    have hmx : Tryz.prog.follows .mixedOrders = true := by kernel_rfl
    clear hb hr c gW hsz bL b0 b1 b2 b3 hx hpre
    have RL := readLine_any (trimB x) W.drew (RCells.keep HL.out GW.out.drew.keeps) (BB.out.grows ((Grows.refl W).drew)) (RR.out.grows ((Grows.refl W).drew)) hlo hb2 XS.out SZ.out (HM.out.keep GW.out.drew)
    gi_wp2
    gi_region_with_o (first | (refine ⟨trivial, ?_⟩; gi_at_call 44; refine (CallsIn.inRound l (callsIn_wide.2 (trim_any _ _ _ hxx))).mono ?_; rintro e w' ⟨rfl, rfl⟩; rw [trim_eq]) | (refine ⟨trivial, ?_⟩; gi_at_call 43; refine (CallsIn.inRound l (callsIn_wide.2 RL)).mono ?_; clear RL; rintro e w' ⟨⟨v9, rfl⟩, kp, vi', vn', vp', hb', hr'⟩))
    all_goals gi_wp2
    all_goals exact round_end (by omega) (by omega) hlo CC.out kp hb' hr'
  case done =>
    rintro D W hD ⟨c, vi, vn, vp, hb, hr⟩ hK
    have gW : Grows w W := gU.chg c (by simp <;> omega)
    have hDl : D < W.heap.size := (Array.getElem?_eq_some_iff.1 hK).1
    have bL := b0.chg c (by simp <;> omega)
    have bR := b1.chg c (by simp <;> omega)
    rw [← upD_same] at hr
    have hsd : SmDesign (upD cs (piecesB 10 s)) := (upD_cut cs _ hs (List.prefix_refl _)).sm (by omega) (by omega)
    obtain ⟨d, hde⟩ : ∃ d, d = upD cs (piecesB 10 s) := ⟨_, rfl⟩
    have DE := hideIt hde
    rw [← hde] at hr hsd
    clear hde
    obtain ⟨⟨Ai, ci, rfl⟩, ⟨An, cn, rfl⟩, ⟨Ap, cp, rfl⟩⟩ := hr.slices
    have cL := bL.cell 0
    have cD0 := hb.cell 0
    have cD1 := hb.cell 1
    have cD2 := hb.cell 2
    simp at cL cD0 cD1 cD2
    have HR := hideIt hr
    have HBR := hideIt bR
    have HBD := hideIt hb
    have HBL := hideIt bL
    have GW := hideIt gW
    have HK := hideIt hK
    have HSD := hideIt hsd
    clear hb bL bR b0 b1 b2 b3 hr c gW hK hsd
    by_cases hd : desB cs d = true
    · have hp : DesP cs d := pB_iff.1 hd
      have HP := hideIt hp
      have HD1 := hideIt hd
      clear hp hd
      by_cases ht : textB cs d = s
      · have OK1 : Hid (okD cs s = true) := hideIt (by unfold okD; rw [← DE.out, HD1.out, decide_eq_true ht]; rfl)
        have HT := hideIt ht
        clear ht
        gi_wp2_with (first | (refine ⟨trivial, ?_⟩; gi_at_call 45; refine (callsIn_wide.2 (iIsDes_any _ (RCells.keep HL.out GW.out.keeps) HR.out.reads HSL.out HSD.out)).mono ?_; rintro e W1 ⟨rfl, g1⟩; rw [HD1.out]; have e0 := (HBL.out.grows g1).cell 0; have d0 := (HBD.out.grows g1).cell 0; have d1 := (HBD.out.grows g1).cell 1; have d2 := (HBD.out.grows g1).cell 2; simp at e0 d0 d1 d2) | (refine ⟨trivial, ?_⟩; gi_at_call 46; refine (callsIn_wide.2 (iText_in W1 (RCells.keep HL.out (GW.out.trans g1).keeps) (HR.out.reads.keep g1.keeps) HP.out)).mono ?_; rintro e W2 ⟨rfl, g2'⟩; have g2 := g1.trans g2'; clear g1 g2' e0 d0 d1 d2; rw [HT.out]; have lR := (HBR.out.grows g2).lt; have fR := (HBR.out.grows g2).frozen; have r0 := (HBR.out.grows g2).cell 0; have r1 := (HBR.out.grows g2).cell 1; have r2 := (HBR.out.grows g2).cell 2; simp at r0 r1 r2; have d0 := (HBD.out.grows g2).cell 0; have d1 := (HBD.out.grows g2).cell 1; have d2 := (HBD.out.grows g2).cell 2; simp at d0 d1 d2))
        have OKK := OK1.out
        have hB9 := (((HBR.out.grows g2).set_ 0 (.slice Ai d.insts.length ci)).set_ 1 (.slice An d.nets.length cn)).set_ 2 (.slice Ap d.ports.length cp)
        have hK9 : ((((W2.setCell ⟨w.heap.size + 1, 0, none⟩ (.slice Ai d.insts.length ci)).setCell ⟨w.heap.size + 1, 1, none⟩ (.slice An d.nets.length cn)).setCell ⟨w.heap.size + 1, 2, none⟩ (.slice Ap d.ports.length cp))).heap[D]? = some (.deferred (some [])) := by
          refine (Below.heap_setCell _ _ _ _ (by show D ≠ w.heap.size + 1; omega)).trans ((Below.heap_setCell _ _ _ _ (by show D ≠ w.heap.size + 1; omega)).trans ((Below.heap_setCell _ _ _ _ (by show D ≠ w.heap.size + 1; omega)).trans ((Below.block g2 D hDl).trans HK.out)))
        obtain ⟨bs, ob, owb⟩ := HR.out.owns
        have hlt : ∀ q ∈ bs, w.heap.size + 1 ≠ q := fun q hq e => by have := (owb.2 q hq).1; omega
        have ow1 := ob.same (((((SameOn.refl bs W).grows (fun q hq => (owb.2 q hq).2) g2).set (p := ⟨w.heap.size + 1, 0, none⟩) (fun q hq e => hlt q hq e.symm) (.slice Ai d.insts.length ci)).set (p := ⟨w.heap.size + 1, 1, none⟩) (fun q hq e => hlt q hq e.symm) (.slice An d.nets.length cn)).set (p := ⟨w.heap.size + 1, 2, none⟩) (fun q hq e => hlt q hq e.symm) (.slice Ap d.ports.length cp))
        have ow2 : Own w.heap.size (((W2.setCell ⟨w.heap.size + 1, 0, none⟩ (.slice Ai d.insts.length ci)).setCell ⟨w.heap.size + 1, 1, none⟩ (.slice An d.nets.length cn)).setCell ⟨w.heap.size + 1, 2, none⟩ (.slice Ap d.ports.length cp)).heap.size bs := owb.mono gU.size (by have := g2.size; simpa [World.setCell] using this)
        obtain ⟨f1, f2, f3, f4⟩ := des_fin (w := w) (es := [(.slice Ai d.insts.length ci), (.slice An d.nets.length cn), (.slice Ap d.ports.length cp)]) hK9 (by omega) hB9 ow1 ow2 ((((GW.out.trans g2).setCell (by simp) _).setCell (by simp) _).setCell (by simp) _)
        have y0 := f1.cell 0
        have y1 := f1.cell 1
        have y2 := f1.cell 2
        simp at y0 y1 y2
        refine ⟨by simp, .inl ⟨_, _, rfl, run_takeDeferred hK9, ?_⟩⟩
        refine ⟨.tuple #[.agg #[(.slice Ai d.insts.length ci), (.slice An d.nets.length cn), (.slice Ap d.ports.length cp)], .bool true], ?_, ⟨_, _, _, _, by rw [OKK], by rw [if_pos OKK, ← DE.out]; exact f2, f3, f4⟩⟩
        simp [results, Tryz.f20, go_sem, y0, y1, y2]
      · have OK1 : Hid (okD cs s = false) := hideIt (by unfold okD; rw [← DE.out, HD1.out, decide_eq_false ht]; rfl)
        obtain ⟨tx, htx⟩ : ∃ tx, textB cs d = tx := ⟨_, rfl⟩
        rw [htx] at ht
        have tne : (tx.toList == s.toList) = false := strNe ht
        have HT := hideIt htx
        clear ht htx
        gi_wp2_with (first | (refine ⟨trivial, ?_⟩; gi_at_call 45; refine (callsIn_wide.2 (iIsDes_any _ (RCells.keep HL.out GW.out.keeps) HR.out.reads HSL.out HSD.out)).mono ?_; rintro e W1 ⟨rfl, g1⟩; rw [HD1.out]; have e0 := (HBL.out.grows g1).cell 0; have d0 := (HBD.out.grows g1).cell 0; have d1 := (HBD.out.grows g1).cell 1; have d2 := (HBD.out.grows g1).cell 2; simp at e0 d0 d1 d2) | (refine ⟨trivial, ?_⟩; gi_at_call 46; refine (callsIn_wide.2 (iText_in W1 (RCells.keep HL.out (GW.out.trans g1).keeps) (HR.out.reads.keep g1.keeps) HP.out)).mono ?_; rintro e W2 ⟨rfl, g2'⟩; have g2 := g1.trans g2'; clear g1 g2' e0 d0 d1 d2; rw [HT.out]; have lR := (HBR.out.grows g2).lt; have fR := (HBR.out.grows g2).frozen; have r0 := (HBR.out.grows g2).cell 0; have r1 := (HBR.out.grows g2).cell 1; have r2 := (HBR.out.grows g2).cell 2; simp at r0 r1 r2; have d0 := (HBD.out.grows g2).cell 0; have d1 := (HBD.out.grows g2).cell 1; have d2 := (HBD.out.grows g2).cell 2; simp at d0 d1 d2))
        have OKK := OK1.out
        have hB9 := (((HBR.out.grows g2).set_ 0 (.slice none 0 0)).set_ 1 (.slice none 0 0)).set_ 2 (.slice none 0 0)
        have hK9 : ((((W2.setCell ⟨w.heap.size + 1, 0, none⟩ (.slice none 0 0)).setCell ⟨w.heap.size + 1, 1, none⟩ (.slice none 0 0)).setCell ⟨w.heap.size + 1, 2, none⟩ (.slice none 0 0))).heap[D]? = some (.deferred (some [])) := by
          refine (Below.heap_setCell _ _ _ _ (by show D ≠ w.heap.size + 1; omega)).trans ((Below.heap_setCell _ _ _ _ (by show D ≠ w.heap.size + 1; omega)).trans ((Below.heap_setCell _ _ _ _ (by show D ≠ w.heap.size + 1; omega)).trans ((Below.block g2 D hDl).trans HK.out)))
        have ow1 := noD_own (w := (((W2.setCell ⟨w.heap.size + 1, 0, none⟩ (.slice none 0 0)).setCell ⟨w.heap.size + 1, 1, none⟩ (.slice none 0 0)).setCell ⟨w.heap.size + 1, 2, none⟩ (.slice none 0 0)))
        have ow2 := Own.nil (lo := w.heap.size) (hi := (((W2.setCell ⟨w.heap.size + 1, 0, none⟩ (.slice none 0 0)).setCell ⟨w.heap.size + 1, 1, none⟩ (.slice none 0 0)).setCell ⟨w.heap.size + 1, 2, none⟩ (.slice none 0 0)).heap.size)
        obtain ⟨f1, f2, f3, f4⟩ := des_fin (w := w) (es := [(.slice none 0 0), (.slice none 0 0), (.slice none 0 0)]) hK9 (by omega) hB9 ow1 ow2 ((((GW.out.trans g2).setCell (by simp) _).setCell (by simp) _).setCell (by simp) _)
        have y0 := f1.cell 0
        have y1 := f1.cell 1
        have y2 := f1.cell 2
        simp at y0 y1 y2
        refine ⟨by simp, .inl ⟨_, _, rfl, run_takeDeferred hK9, ?_⟩⟩
        refine ⟨.tuple #[.agg #[(.slice none 0 0), (.slice none 0 0), (.slice none 0 0)], .bool false], ?_, ⟨_, _, _, _, by rw [OKK], by rw [if_neg (by rw [OKK]; decide)]; exact f2, f3, f4⟩⟩
        simp [results, Tryz.f20, go_sem, y0, y1, y2]
    · have hd0 : desB cs d = false := by simpa using hd
      have HD0 := hideIt hd0
      clear hd hd0
      gi_wp2_with (refine ⟨trivial, ?_⟩; gi_at_call 45; refine (callsIn_wide.2 (iIsDes_any _ (RCells.keep HL.out GW.out.keeps) HR.out.reads HSL.out HSD.out)).mono ?_; rintro e W1 ⟨rfl, g1⟩; rw [HD0.out]; have lR := (HBR.out.grows g1).lt; have fR := (HBR.out.grows g1).frozen; have r0 := (HBR.out.grows g1).cell 0; have r1 := (HBR.out.grows g1).cell 1; have r2 := (HBR.out.grows g1).cell 2; simp at r0 r1 r2)
      refine ⟨trivial, ?_⟩
      gi_wp2
      have OK0 : okD cs s = false := by unfold okD; rw [← DE.out, HD0.out]; rfl
      have hB9 := (((HBR.out.grows g1).set_ 0 (.slice none 0 0)).set_ 1 (.slice none 0 0)).set_ 2 (.slice none 0 0)
      have hK9 : ((((W1.setCell ⟨w.heap.size + 1, 0, none⟩ (.slice none 0 0)).setCell ⟨w.heap.size + 1, 1, none⟩ (.slice none 0 0)).setCell ⟨w.heap.size + 1, 2, none⟩ (.slice none 0 0))).heap[D]? = some (.deferred (some [])) := by
        refine (Below.heap_setCell _ _ _ _ (by show D ≠ w.heap.size + 1; omega)).trans ((Below.heap_setCell _ _ _ _ (by show D ≠ w.heap.size + 1; omega)).trans ((Below.heap_setCell _ _ _ _ (by show D ≠ w.heap.size + 1; omega)).trans ((Below.block g1 D hDl).trans HK.out)))
      obtain ⟨f1, f2, f3, f4⟩ := des_fin (w := w) (es := [.slice none 0 0, .slice none 0 0, .slice none 0 0]) (d := noD) (bs := []) hK9 (by omega) hB9 noD_own Own.nil ((((GW.out.trans g1).setCell (by simp) _).setCell (by simp) _).setCell (by simp) _)
      have y0 := f1.cell 0
      have y1 := f1.cell 1
      have y2 := f1.cell 2
      simp at y0 y1 y2
      refine ⟨by simp, .inl ⟨_, _, rfl, run_takeDeferred hK9, ?_⟩⟩
      refine ⟨.tuple #[.agg #[.slice none 0 0, .slice none 0 0, .slice none 0 0], .bool false], ?_, ⟨_, _, _, [], by rw [OK0], by rw [if_neg (by rw [OK0]; decide)]; exact f2, f3, f4⟩⟩
      simp [results, Tryz.f20, go_sem, y0, y1, y2]
end Go.Proofs.YtocahjbmnkadjaaGreatDoor
/-
  The program's ReadDesign.
-/
namespace Go.Proofs.YtocahjbmnkadjaaGreatDoor
open Go.RowKit
noncomputable def tcode (cs : List CellD) (s : ByteArray) : Int := if libB cs = false then 1 else if 6000 < s.size then 3 else 0
theorem textCode_any {lv : Value} {cs : List CellD} (s : ByteArray) (w : World) (hl : RCells w lv cs) (hsl : SmCells cs) :
    Calls Tryz.prog 19 #[.agg #[lv], .string s] w fun e w' => e = .returned (.int .i64 (tcode cs s)) ∧ Grows w w' := by
  obtain ⟨A, c, rfl⟩ : ∃ (D : Option Addr) (nd : Nat), lv = .slice D cs.length nd := by obtain ⟨D, c, e, -⟩ := RList.form hl; exact ⟨D, c, e⟩
  have g0 := (Grows.refl w).alloc (.cells #[.slice A cs.length c] 35)
  have HL := hideIt (RCells.keep hl g0.keeps)
  have G0 := hideIt g0
  have HS := hideIt hsl
  clear hl g0 hsl
  by_cases hb : libB cs = true
  · have HB := hideIt hb
    by_cases hz : 6000 < s.size
    · have hz2 : (6000 : Int) < (s.size : Int) := by omega
      have EC : Hid (tcode cs s = 3) := hideIt (by unfold tcode; rw [if_neg (by rw [hb]; decide), if_pos hz])
      clear hb
      go_enter Tryz.func19, Tryz.ntmps19
      go_wp2_with fail
      refine (iIsLib_any _ HL.out HS.out).mono ?_
      rintro e w1 ⟨rfl, g⟩
      rw [HB.out]
      go_wp2
      go_ret
      exact ⟨by rw [EC.out]; rfl, G0.out.trans g⟩
    · have hz2 : ¬ (6000 : Int) < (s.size : Int) := by omega
      have EC : Hid (tcode cs s = 0) := hideIt (by unfold tcode; rw [if_neg (by rw [hb]; decide), if_neg hz])
      clear hb
      go_enter Tryz.func19, Tryz.ntmps19
      go_wp2_with fail
      refine (iIsLib_any _ HL.out HS.out).mono ?_
      rintro e w1 ⟨rfl, g⟩
      rw [HB.out]
      go_wp2
      go_ret
      exact ⟨by rw [EC.out]; rfl, G0.out.trans g⟩
  · have hb0 : libB cs = false := by simpa using hb
    have HB := hideIt hb0
    have EC : Hid (tcode cs s = 1) := hideIt (by unfold tcode; rw [if_pos hb0])
    clear hb hb0
    go_enter Tryz.func19, Tryz.ntmps19
    go_wp2_with fail
    refine (iIsLib_any _ HL.out HS.out).mono ?_
    rintro e w1 ⟨rfl, g⟩
    rw [HB.out]
    go_wp2
    go_ret
    exact ⟨by rw [EC.out]; rfl, G0.out.trans g⟩
/-- what both readers answer, where it lies -/
def ReadPost (cs : List CellD) (s : ByteArray) (w : World) (e : Ending) (w' : World) : Prop :=
  ∃ (A0 : Option Addr) (c0 : Nat) (A1 : Option Addr) (c1 : Nat) (A2 : Option Addr) (c2 : Nat) (bs : List Nat), e = .returned (.tuple #[.agg #[.slice A0 (readD cs s).insts.length c0, .slice A1 (readD cs s).nets.length c1, .slice A2 (readD cs s).ports.length c2], .int .i64 (codeR cs s)]) ∧
    ODesign w' [.slice A0 (readD cs s).insts.length c0, .slice A1 (readD cs s).nets.length c1, .slice A2 (readD cs s).ports.length c2] (readD cs s) bs ∧ Own w.heap.size w'.heap.size bs ∧ Grows w w'
theorem ReadPost.no {cs : List CellD} {s : ByteArray} {w w' : World} {z : Int} (hz : codeR cs s = z) (h0 : z ≠ 0) (g : Grows w w') : ReadPost cs s w (.returned (.tuple #[.agg #[.slice none 0 0, .slice none 0 0, .slice none 0 0], .int .i64 z])) w' := by
  have e : readD cs s = noD := readD_bad (by rw [hz]; exact h0)
  unfold ReadPost
  rw [e, hz]
  exact ⟨none, 0, none, 0, none, 0, [], rfl, noD_own, Own.nil, g⟩
theorem ReadPost.yes {cs : List CellD} {s : ByteArray} {w w' : World} {d : DesignD} {A0 A1 A2 : Option Addr} {c0 c1 c2 : Nat} {bs : List Nat} (hz : codeR cs s = 0) (hd : d = upD cs (piecesB 10 s)) (ho : ODesign w' [.slice A0 d.insts.length c0, .slice A1 d.nets.length c1, .slice A2 d.ports.length c2] d bs) (hw : Own w.heap.size w'.heap.size bs) (g : Grows w w') :
    ReadPost cs s w (.returned (.tuple #[.agg #[.slice A0 d.insts.length c0, .slice A1 d.nets.length c1, .slice A2 d.ports.length c2], .int .i64 0])) w' := by
  have e : readD cs s = d := by rw [hd]; exact if_pos hz
  unfold ReadPost
  rw [e, hz]
  exact ⟨A0, c0, A1, c1, A2, c2, bs, rfl, ho, hw, g⟩
set_option maxHeartbeats 4000000 in
theorem iReadD_any {lv : Value} {cs : List CellD} (s : ByteArray) (w : World) (hl : RCells w lv cs) (hsl : SmCells cs) (hs : s.size ≤ 1048576) (hm : TM w) :
    Calls Tryz.prog 7 #[.agg #[lv], .string s] w (ReadPost cs s w) := by
  obtain ⟨A, c, rfl⟩ : ∃ (D : Option Addr) (nd : Nat), lv = .slice D cs.length nd := by obtain ⟨D, c, e, -⟩ := RList.form hl; exact ⟨D, c, e⟩
  have g0 := ((Grows.refl w).alloc (.cells #[.slice A cs.length c] 35)).alloc (.cells #[.slice none 0 0, .slice none 0 0, .slice none 0 0] 30)
  have B0 : Hid (Blk ((w.alloc (.cells #[.slice A cs.length c] 35)).alloc (.cells #[.slice none 0 0, .slice none 0 0, .slice none 0 0] 30)) w.heap.size 35 #[.slice A cs.length c]) := hideIt ((Blk.new w _ _).grows ((Grows.refl _).alloc _))
  have B1 : Hid (Blk ((w.alloc (.cells #[.slice A cs.length c] 35)).alloc (.cells #[.slice none 0 0, .slice none 0 0, .slice none 0 0] 30)) (w.heap.size + 1) 30 #[.slice none 0 0, .slice none 0 0, .slice none 0 0]) := hideIt (by have h := Blk.new (w.alloc (.cells #[.slice A cs.length c] 35)) 30 #[.slice none 0 0, .slice none 0 0, .slice none 0 0]; rwa [World.size_alloc] at h)
  have HL := hideIt hl
  have G0 := hideIt g0
  have HS := hideIt hsl
  have HM := hideIt hm
  have hsz0 : w.heap.size + 2 ≤ ((w.alloc (.cells #[.slice A cs.length c] 35)).alloc (.cells #[.slice none 0 0, .slice none 0 0, .slice none 0 0] 30)).heap.size := by simp
  have SZ0 := hideIt hsz0
  clear hl g0 hsl hm hsz0
  go_enter Tryz.func7, Tryz.ntmps7
  go_wp2_with fail
  refine (textCode_any s _ (RCells.keep HL.out G0.out.keeps) HS.out).mono ?_
  rintro e w1 ⟨rfl, g⟩
  have hsz1 : w.heap.size + 2 ≤ w1.heap.size := Nat.le_trans SZ0.out g.size
  replace G0 := hideIt (G0.out.trans g)
  replace B0 := hideIt (B0.out.grows g)
  replace B1 := hideIt (B1.out.grows g)
  have k0 := B0.out.cell 0
  have r0 := B1.out.cell 0
  have r1 := B1.out.cell 1
  have r2 := B1.out.cell 2
  have rl := B1.out.lt
  have rf := B1.out.frozen
  simp at k0 r0 r1 r2
  clear g SZ0
  by_cases hb : libB cs = true
  · by_cases hz : 6000 < s.size
    · have EC : Hid (tcode cs s = 3) := hideIt (by unfold tcode; rw [if_neg (by rw [hb]; decide), if_pos hz])
      have ER := hideIt (codeR_long hb hz)
      rw [EC.out]
      clear hb
      go_wp2
      refine bodyPost_ret (by simp [*, results, Tryz.results7, go_sem]; try rfl) rfl ?_
      exact ReadPost.no ER.out (by decide) (((G0.out.setCell (by simp) _).setCell (by simp) _).setCell (by simp) _)
    · have EC : Hid (tcode cs s = 0) := hideIt (by unfold tcode; rw [if_neg (by rw [hb]; decide), if_neg hz])
      have ER := hideIt (codeR_read hb (s := s) (by omega))
      rw [EC.out]
      clear hb
      go_wp2_with fail
      clear r0 r1 r2 rl rf
      refine (readDes_any s _ (RCells.keep HL.out G0.out.keeps) HS.out (by omega) (HM.out.keep G0.out)).mono ?_
      rintro e w2 ⟨vi, vn, vp, bs, rfl, ho, hw, g⟩
      by_cases hok : okD cs s = true
      · have EZ : Hid (codeR cs s = 0) := hideIt (by rw [ER.out, if_pos hok])
        rw [if_pos hok] at ho
        rw [hok]
        obtain ⟨d, hd⟩ : ∃ d, d = upD cs (piecesB 10 s) := ⟨_, rfl⟩
        rw [← hd] at ho
        have HD := hideIt hd
        obtain ⟨⟨Ai, ci, rfl⟩, ⟨An, cn, rfl⟩, ⟨Ap, cp, rfl⟩⟩ := ho.shape
        have HO := hideIt ho
        have HW := hideIt hw
        replace G0 := hideIt (G0.out.trans g)
        replace B1 := hideIt (B1.out.grows g)
        have r0 := B1.out.cell 0
        have r1 := B1.out.cell 1
        have r2 := B1.out.cell 2
        have rl := B1.out.lt
        have rf := B1.out.frozen
        simp at r0 r1 r2
        have hsz2 := g.size
        clear hok hd ho hw g ER EC
        go_wp2
        refine bodyPost_ret (by simp [*, results, Tryz.results7, go_sem]; try rfl) rfl ?_
        refine ReadPost.yes (bs := bs) EZ.out HD.out ?_ ?_ (by repeat (first | exact G0.out | refine Grows.alloc ?_ _ | refine Grows.setCell ?_ (by simp <;> omega) _))
        · refine HO.out.same ?_
          have hlt : ∀ q ∈ bs, w.heap.size + 1 ≠ q ∧ q ≠ w2.heap.size ∧ q < w2.heap.size := fun q hq => by have := HW.out.2 q hq; omega
          exact ((((SameOn.refl bs w2).set (p := ⟨w.heap.size + 1, 0, none⟩) (fun q hq e => (hlt q hq).1 e.symm) _).set (p := ⟨w.heap.size + 1, 1, none⟩) (fun q hq e => (hlt q hq).1 e.symm) _).set (p := ⟨w.heap.size + 1, 2, none⟩) (fun q hq e => (hlt q hq).1 e.symm) _).grows (fun q hq => by have := (hlt q hq).2.2; simpa [World.setCell] using this) ((Grows.refl _).alloc _)
        · exact HW.out.mono (by omega) (by simp)
      · have hok0 : okD cs s = false := by simpa using hok
        have EZ : Hid (codeR cs s = 6) := hideIt (by rw [ER.out, if_neg hok])
        rw [if_neg hok] at ho
        rw [hok0]
        obtain ⟨⟨Ai, ci, rfl⟩, ⟨An, cn, rfl⟩, ⟨Ap, cp, rfl⟩⟩ := ho.shape
        replace G0 := hideIt (G0.out.trans g)
        replace B1 := hideIt (B1.out.grows g)
        have r0 := B1.out.cell 0
        have r1 := B1.out.cell 1
        have r2 := B1.out.cell 2
        have rl := B1.out.lt
        have rf := B1.out.frozen
        simp at r0 r1 r2
        clear hok hok0 ho hw g ER EC
        go_wp2
        refine bodyPost_ret (by simp [*, results, Tryz.results7, go_sem]; try rfl) rfl ?_
        exact ReadPost.no EZ.out (by decide) (by repeat (first | exact G0.out | refine Grows.alloc ?_ _ | refine Grows.setCell ?_ (by simp <;> omega) _))
  · have hb0 : libB cs = false := by simpa using hb
    have EC : Hid (tcode cs s = 1) := hideIt (by unfold tcode; rw [if_pos hb0])
    have ER := hideIt (codeR_lib (s := s) hb0)
    rw [EC.out]
    clear hb hb0
    go_wp2
    refine bodyPost_ret (by simp [*, results, Tryz.results7, go_sem]; try rfl) rfl ?_
    exact ReadPost.no ER.out (by decide) (((G0.out.setCell (by simp) _).setCell (by simp) _).setCell (by simp) _)
end Go.Proofs.YtocahjbmnkadjaaGreatDoor
/-
  The reference's ReadDesign.
-/
namespace Go.Proofs.YtocahjbmnkadjaaGreatDoor
open Go.RowKit
/-- what the reference answers -/
def SRPost (cs : List CellD) (s : ByteArray) (w : World) (e : Ending) (w' : World) : Prop :=
  ∃ (A0 : Option Addr) (c0 : Nat) (A1 : Option Addr) (c1 : Nat) (A2 : Option Addr) (c2 : Nat), e = .returned (.tuple #[.agg #[.slice A0 (readD cs s).insts.length c0, .slice A1 (readD cs s).nets.length c1, .slice A2 (readD cs s).ports.length c2], .int .i64 (codeR cs s)]) ∧
    RDesign w' [.slice A0 (readD cs s).insts.length c0, .slice A1 (readD cs s).nets.length c1, .slice A2 (readD cs s).ports.length c2] (readD cs s) ∧ Grows w w'
theorem noD_reads {w : World} : RDesign w [.slice none 0 0, .slice none 0 0, .slice none 0 0] noD :=
  (show ODesign w [.slice none 0 0, .slice none 0 0, .slice none 0 0] noD [] from ⟨_, _, _, [], [], [], rfl, .inl ⟨rfl, rfl, rfl⟩, .inl ⟨rfl, rfl, rfl⟩, .inl ⟨rfl, rfl, rfl⟩, rfl⟩).reads
theorem SRPost.no {cs : List CellD} {s : ByteArray} {w w' : World} {z : Int} (hz : codeR cs s = z) (h0 : z ≠ 0) (g : Grows w w') : SRPost cs s w (.returned (.tuple #[.agg #[.slice none 0 0, .slice none 0 0, .slice none 0 0], .int .i64 z])) w' := by
  have e : readD cs s = noD := readD_bad (by rw [hz]; exact h0)
  unfold SRPost
  rw [e, hz]
  exact ⟨none, 0, none, 0, none, 0, rfl, noD_reads, g⟩
theorem SRPost.yes {cs : List CellD} {s : ByteArray} {w w' : World} {d : DesignD} {A0 A1 A2 : Option Addr} {c0 c1 c2 : Nat} (hz : codeR cs s = 0) (hd : d = upD cs (piecesB 10 s)) (ho : RDesign w' [.slice A0 d.insts.length c0, .slice A1 d.nets.length c1, .slice A2 d.ports.length c2] d) (g : Grows w w') :
    SRPost cs s w (.returned (.tuple #[.agg #[.slice A0 d.insts.length c0, .slice A1 d.nets.length c1, .slice A2 d.ports.length c2], .int .i64 0])) w' := by
  have e : readD cs s = d := by rw [hd]; exact if_pos hz
  unfold SRPost
  rw [e, hz]
  exact ⟨A0, c0, A1, c1, A2, c2, rfl, ho, g⟩
set_option maxHeartbeats 8000000 in
theorem sReadD_any {lv : Value} {cs : List CellD} (s : ByteArray) (w : World) (hl : RCells w lv cs) (hs : s.size ≤ 1048576) :
    Calls Tryz.prog 5 #[.agg #[lv], .string s] w (SRPost cs s w) := by
  obtain ⟨A, c, rfl⟩ : ∃ (D : Option Addr) (nd : Nat), lv = .slice D cs.length nd := by obtain ⟨D, c, e, -⟩ := RList.form hl; exact ⟨D, c, e⟩
  have g0 := ((Grows.refl w).alloc (.cells #[.slice A cs.length c] 35)).alloc (.cells #[.slice none 0 0, .slice none 0 0, .slice none 0 0] 30)
  have B0 : Hid (Blk ((w.alloc (.cells #[.slice A cs.length c] 35)).alloc (.cells #[.slice none 0 0, .slice none 0 0, .slice none 0 0] 30)) w.heap.size 35 #[.slice A cs.length c]) := hideIt ((Blk.new w _ _).grows ((Grows.refl _).alloc _))
  have B1 : Hid (Blk ((w.alloc (.cells #[.slice A cs.length c] 35)).alloc (.cells #[.slice none 0 0, .slice none 0 0, .slice none 0 0] 30)) (w.heap.size + 1) 30 #[.slice none 0 0, .slice none 0 0, .slice none 0 0]) := hideIt (by have h := Blk.new (w.alloc (.cells #[.slice A cs.length c] 35)) 30 #[.slice none 0 0, .slice none 0 0, .slice none 0 0]; rwa [World.size_alloc] at h)
  have HL := hideIt hl
  have G0 := hideIt g0
  have hsz0 : w.heap.size + 2 ≤ ((w.alloc (.cells #[.slice A cs.length c] 35)).alloc (.cells #[.slice none 0 0, .slice none 0 0, .slice none 0 0] 30)).heap.size := by simp
  have SZ0 := hideIt hsz0
  clear hl g0 hsz0
  go_enter Tryz.func5, Tryz.ntmps5
  go_wp2_with fail
  refine (sIsLib_any _ (RCells.keep HL.out G0.out.keeps)).mono ?_
  rintro e w1 ⟨rfl, g⟩
  have hsz1 : w.heap.size + 2 ≤ w1.heap.size := Nat.le_trans SZ0.out g.size
  replace G0 := hideIt (G0.out.trans g)
  replace B0 := hideIt (B0.out.grows g)
  replace B1 := hideIt (B1.out.grows g)
  have k0 := B0.out.cell 0
  have r0 := B1.out.cell 0
  have r1 := B1.out.cell 1
  have r2 := B1.out.cell 2
  have rl := B1.out.lt
  have rf := B1.out.frozen
  simp at k0 r0 r1 r2
  clear g SZ0
  by_cases hb : libB cs = true
  · by_cases hz : 6000 < s.size
    · have hz2 : (6000 : Int) < (s.size : Int) := by omega
      have ER := hideIt (codeR_long hb hz)
      rw [hb]
      clear hb
      go_wp2
      refine bodyPost_ret (by simp [*, results, Tryz.results5, go_sem]; try rfl) rfl ?_
      exact SRPost.no ER.out (by decide) (((G0.out.setCell (by simp) _).setCell (by simp) _).setCell (by simp) _)
    · have hz2 : ¬ (6000 : Int) < (s.size : Int) := by omega
      have ER := hideIt (codeR_read hb (s := s) (by omega))
      rw [hb]
      clear hb
      go_wp2_with fail
      clear r0 r1 r2 rl rf k0
      refine (guess_any s _ (RCells.keep HL.out G0.out.keeps) (by omega)).mono ?_
      rintro e w2 ⟨A0, c0, A1, c1, A2, c2, A3, n3, c3, rfl, ⟨bs, hd, hw⟩, g⟩
      obtain ⟨d, hde⟩ : ∃ d, d = upD cs (piecesB 10 s) := ⟨_, rfl⟩
      rw [← hde] at hd ⊢
      have HW : Hid (∀ q ∈ bs, w.heap.size + 2 ≤ q) := hideIt (fun q hq => Nat.le_trans hsz1 (hw.2 q hq).1)
      clear hw
      have DE := hideIt hde
      replace G0 := hideIt (G0.out.trans g)
      replace B0 := hideIt (B0.out.grows g)
      replace B1 := hideIt (B1.out.grows g)
      have RD := hideIt hd
      have hsz2 := g.size
      clear hd g hde
      go_upto_region 6 with fail
      refine at_c (fun u => Grows w2 u ∧ Blk u w2.heap.size 30 #[.slice A0 d.insts.length c0, .slice A1 d.nets.length c1, .slice A2 d.ports.length c2]) ⟨(Grows.refl _).alloc _, Blk.new _ _ _⟩ (fun u hu => ?_)
      obtain ⟨gu, bu⟩ := hu
      replace G0 := hideIt (G0.out.trans gu)
      replace B0 := hideIt (B0.out.grows gu)
      replace B1 := hideIt (B1.out.grows gu)
      replace RD := hideIt (RD.out.same ((SameOn.refl _ _).grows RD.out.lt gu))
      have BD := hideIt bu
      have k0 := B0.out.cell 0
      have d0 := BD.out.cell 0
      have d1 := BD.out.cell 1
      have d2 := BD.out.cell 2
      simp at k0 d0 d1 d2
      clear gu bu
      go_wp2_with fail
      clear k0 d0 d1 d2
      refine (sIsDes_any _ (RCells.keep HL.out G0.out.keeps) RD.out.reads).mono ?_
      rintro e w3 ⟨rfl, g⟩
      replace G0 := hideIt (G0.out.trans g)
      replace B0 := hideIt (B0.out.grows g)
      replace B1 := hideIt (B1.out.grows g)
      replace RD := hideIt (RD.out.same ((SameOn.refl _ _).grows RD.out.lt g))
      replace BD := hideIt (BD.out.grows g)
      clear g
      by_cases hdv : desB cs d = true
      · have hp : DesP cs d := pB_iff.1 hdv
        have HP := hideIt hp
        have HDV := hideIt hdv
        rw [hdv]
        have k0 := B0.out.cell 0
        have d0 := BD.out.cell 0
        have d1 := BD.out.cell 1
        have d2 := BD.out.cell 2
        simp at k0 d0 d1 d2
        clear hp hdv
        go_wp2_with fail
        clear k0 d0 d1 d2
        refine (sText_in _ (RCells.keep HL.out G0.out.keeps) RD.out.reads HP.out).mono ?_
        rintro e w4 ⟨rfl, g⟩
        replace G0 := hideIt (G0.out.trans g)
        replace B1 := hideIt (B1.out.grows g)
        replace RD := hideIt (RD.out.same ((SameOn.refl _ _).grows RD.out.lt g))
        replace BD := hideIt (BD.out.grows g)
        have r0 := B1.out.cell 0
        have r1 := B1.out.cell 1
        have r2 := B1.out.cell 2
        have rl := B1.out.lt
        have rf := B1.out.frozen
        have d0 := BD.out.cell 0
        have d1 := BD.out.cell 1
        have d2 := BD.out.cell 2
        simp at r0 r1 r2 d0 d1 d2
        clear g
        by_cases ht : textB cs d = s
        · have EZ : Hid (codeR cs s = 0) := hideIt (by rw [ER.out, if_pos (by unfold okD; rw [← DE.out, HDV.out, decide_eq_true ht]; rfl)])
          rw [ht]
          clear ht
          go_wp2
          refine bodyPost_ret (by simp [*, results, Tryz.results5, go_sem]; try rfl) rfl ?_
          refine SRPost.yes EZ.out DE.out ?_ (((G0.out.setCell (by simp) _).setCell (by simp) _).setCell (by simp) _)
          have hlt : ∀ q ∈ bs, w.heap.size + 1 ≠ q := fun q hq e => by have := HW.out q hq; omega
          exact (RD.out.same ((((SameOn.refl bs w4).set (p := ⟨w.heap.size + 1, 0, none⟩) (fun q hq e => hlt q hq e.symm) _).set (p := ⟨w.heap.size + 1, 1, none⟩) (fun q hq e => hlt q hq e.symm) _).set (p := ⟨w.heap.size + 1, 2, none⟩) (fun q hq e => hlt q hq e.symm) _)).reads
        · have EZ : Hid (codeR cs s = 6) := hideIt (by rw [ER.out, if_neg (by unfold okD; rw [← DE.out, HDV.out, decide_eq_false ht]; decide)])
          obtain ⟨tx, htx⟩ : ∃ tx, textB cs d = tx := ⟨_, rfl⟩
          rw [htx] at ht ⊢
          have tne : (tx.toList == s.toList) = false := strNe ht
          clear ht htx
          go_wp2
          refine bodyPost_ret (by simp [*, results, Tryz.results5, go_sem]; try rfl) rfl ?_
          exact SRPost.no EZ.out (by decide) (((G0.out.setCell (by simp) _).setCell (by simp) _).setCell (by simp) _)
      · have hd0 : desB cs d = false := by simpa using hdv
        have EZ : Hid (codeR cs s = 6) := hideIt (by rw [ER.out, if_neg (by unfold okD; rw [← DE.out, hd0]; simp)])
        rw [hd0]
        have r0 := B1.out.cell 0
        have r1 := B1.out.cell 1
        have r2 := B1.out.cell 2
        have rl := B1.out.lt
        have rf := B1.out.frozen
        simp at r0 r1 r2
        clear hdv hd0
        go_wp2
        refine bodyPost_ret (by simp [*, results, Tryz.results5, go_sem]; try rfl) rfl ?_
        exact SRPost.no EZ.out (by decide) (((G0.out.setCell (by simp) _).setCell (by simp) _).setCell (by simp) _)
  · have hb0 : libB cs = false := by simpa using hb
    have ER := hideIt (codeR_lib (s := s) hb0)
    rw [hb0]
    clear hb hb0
    go_wp2
    refine bodyPost_ret (by simp [*, results, Tryz.results5, go_sem]; try rfl) rfl ?_
    exact SRPost.no ER.out (by decide) (((G0.out.setCell (by simp) _).setCell (by simp) _).setCell (by simp) _)
end Go.Proofs.YtocahjbmnkadjaaGreatDoor
/-
  Both readers' contracts with the answer named; what is read is of few parts.
-/
namespace Go.Proofs.YtocahjbmnkadjaaGreatDoor
open Go.RowKit
theorem sum_few {xs : List InstD} (h : ∀ x ∈ xs, x.nets.length ≤ 5) : ((xs.map fun x => 2 + x.nets.length).sum) ≤ 7 * xs.length := by
  induction xs with
  | nil => simp
  | cons x xs ih =>
    have h1 := h x (List.mem_cons_self ..)
    have h2 := ih fun y hy => h y (List.mem_cons_of_mem _ hy)
    rw [List.map_cons, List.sum_cons, List.length_cons]
    omega
theorem readD_few {cs : List CellD} {s : ByteArray} {d : DesignD} (hd : readD cs s = d) : FewD d := by
  obtain ⟨h1, h2, h3, h4⟩ := readD_small cs s
  rw [hd] at h1 h2 h3 h4
  have h5 := sum_few h4
  refine ⟨by omega, ?_, by omega, by omega⟩
  unfold cnI
  rw [List.take_of_length_le (Nat.le_refl _)]
  omega
theorem few_cn {d : DesignD} (h : FewD d) : cnD d ≤ 10000000 := by
  obtain ⟨h1, h2, h3, h4⟩ := h
  unfold cnD
  omega
/-- an owned design and a code -/
def DPost (d : DesignD) (cd : Int) (w : World) (e : Ending) (w' : World) : Prop :=
  ∃ (A0 : Option Addr) (c0 : Nat) (A1 : Option Addr) (c1 : Nat) (A2 : Option Addr) (c2 : Nat) (bs : List Nat), e = .returned (.tuple #[.agg #[.slice A0 d.insts.length c0, .slice A1 d.nets.length c1, .slice A2 d.ports.length c2], .int .i64 cd]) ∧
    ODesign w' [.slice A0 d.insts.length c0, .slice A1 d.nets.length c1, .slice A2 d.ports.length c2] d bs ∧ Own w.heap.size w'.heap.size bs ∧ Grows w w'
/-- a design that reads, and a code -/
def RPost (d : DesignD) (cd : Int) (w : World) (e : Ending) (w' : World) : Prop :=
  ∃ (A0 : Option Addr) (c0 : Nat) (A1 : Option Addr) (c1 : Nat) (A2 : Option Addr) (c2 : Nat), e = .returned (.tuple #[.agg #[.slice A0 d.insts.length c0, .slice A1 d.nets.length c1, .slice A2 d.ports.length c2], .int .i64 cd]) ∧
    RDesign w' [.slice A0 d.insts.length c0, .slice A1 d.nets.length c1, .slice A2 d.ports.length c2] d ∧ Grows w w'
theorem iR_any {lv : Value} {cs : List CellD} {s : ByteArray} {d : DesignD} {cd : Int} (w : World) (hd : readD cs s = d) (hc : codeR cs s = cd) (hl : RCells w lv cs) (hsl : SmCells cs) (hs : s.size ≤ 1048576) (hm : TM w) :
    Calls Tryz.prog 7 #[.agg #[lv], .string s] w (DPost d cd w) := by
  subst hd hc
  exact iReadD_any s w hl hsl hs hm
theorem sR_any {lv : Value} {cs : List CellD} {s : ByteArray} {d : DesignD} {cd : Int} (w : World) (hd : readD cs s = d) (hc : codeR cs s = cd) (hl : RCells w lv cs) (hs : s.size ≤ 1048576) :
    Calls Tryz.prog 5 #[.agg #[lv], .string s] w (RPost d cd w) := by
  subst hd hc
  exact sReadD_any s w hl hs
end Go.Proofs.YtocahjbmnkadjaaGreatDoor
