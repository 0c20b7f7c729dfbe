/-
  A drawn table that is rarely not valid.
-/
import Derived.Test.YtlnpefiipdkafaaGreatDoorDrawT
import Derived.Test.YtlnpefiipdkafaaGreatDoorGJ
namespace Go.Proofs.YtlnpefiipdkafaaGreatDoor
open Go.RowKit
/-- integers that are read stay, though a block turns that holds none -/
theorem RInts.off {w w' : World} {v : Value} {xs : List Int} {g : Nat} (h : RInts w v xs) (c : Chg [g] w w') (hg : ∀ o x, w.cell? ⟨g, o, none⟩ ≠ some (.int .i64 x)) : RInts w' v xs := by
  obtain ⟨A, n, e, h1, h2, h3⟩ := h
  refine ⟨A, n, e, h1, h2, ?_⟩
  rcases h3 with h3 | ⟨b, off, hA, h4⟩
  · exact .inl h3
  · refine .inr ⟨b, off, hA, fun i x hx => ?_⟩
    obtain ⟨cs, hl, hc, hr⟩ := h4 i x hx
    refine ⟨cs, hl, fun j u hu => ?_, hr⟩
    have k := hc j u hu
    refine c.cell k (fun hm => ?_)
    simp at hm
    have hr' : cs = [.int .i64 x] := hr
    subst hr'
    match j, hu with
    | 0, hu =>
      simp at hu
      subst hu
      rw [hm] at k
      exact hg _ _ k
/-- a slice without its first element -/
theorem OInts.tail {w : World} {g c n : Nat} {xs : List Int} (h : OInts w (.slice (some ⟨g, 0, none⟩) n c) xs [g]) (hn : 1 ≤ xs.length) (e : n = xs.length) : RInts w (.slice (some ⟨g, 1, none⟩) (n - 1) (c - 1)) xs.tail := by
  subst e
  obtain ⟨g', c', cs, e, eb, h1, h2, hb, h3, h6⟩ := h.row hn
  injection eb with eb
  subst eb
  injection e with e1 e2 e3
  subst e3
  refine ⟨_, _, by rw [List.length_tail], by rw [List.length_tail]; omega, by omega, .inr ⟨g, 1, rfl, fun i x hx => ⟨[.int .i64 x], rfl, fun j u hu => ?_, rfl⟩⟩⟩
  match j, hu with
  | 0, hu =>
    simp at hu
    subst hu
    rw [hb.cell]
    rw [List.getElem?_tail] at hx
    simpa [Nat.add_comm] using h6 _ _ hx
theorem table_rows {w : World} {a1 a2 a3 : Value} {S L Y : List Int} {bs : List Nat} {lo hi : Nat} (h : OTable w [a1, a2, a3] ⟨S, L, Y⟩ bs) (ho : Own lo hi bs) (h1 : 1 ≤ S.length) (h2 : 1 ≤ L.length) (h3 : 1 ≤ Y.length) :
    ∃ g1 c1 g2 c2 g3 c3 : Nat, a1 = .slice (some ⟨g1, 0, none⟩) S.length c1 ∧ a2 = .slice (some ⟨g2, 0, none⟩) L.length c2 ∧ a3 = .slice (some ⟨g3, 0, none⟩) Y.length c3 ∧ OInts w a1 S [g1] ∧ OInts w a2 L [g2] ∧ OInts w a3 Y [g3] ∧
      (lo ≤ g1 ∧ g1 < hi) ∧ (lo ≤ g2 ∧ g2 < hi) ∧ (lo ≤ g3 ∧ g3 < hi) ∧ g1 ≠ g2 ∧ g1 ≠ g3 ∧ g2 ≠ g3 ∧ (S.length ≤ c1 ∧ L.length ≤ c2 ∧ Y.length ≤ c3) ∧ (c1 ≤ maxLen ∧ c2 ≤ maxLen ∧ c3 ≤ maxLen) := by
  obtain ⟨x, y, z, b1, b2, b3, e, o1, o2, o3, rfl⟩ := h
  injection e with e1 e
  injection e with e2 e
  injection e with e3 e
  subst e1 e2 e3
  obtain ⟨g1, c1, rfl, rfl, l1, m1, -, -⟩ := o1.one h1
  obtain ⟨g2, c2, rfl, rfl, l2, m2, -, -⟩ := o2.one h2
  obtain ⟨g3, c3, rfl, rfl, l3, m3, -, -⟩ := o3.one h3
  have hn := ho.1
  simp at hn
  exact ⟨g1, c1, g2, c2, g3, c3, rfl, rfl, rfl, o1, o2, o3, ho.2 g1 (by simp), ho.2 g2 (by simp), ho.2 g3 (by simp), hn.1.1, hn.1.2, hn.2, ⟨l1, l2, l3⟩, ⟨m1, m2, m3⟩⟩

theorem ints4_at {w : World} {g : Nat} {t : TypeId} {z0 z1 z2 z3 : Int} (h : Blk w g t #[.int .i64 z0, .int .i64 z1, .int .i64 z2, .int .i64 z3]) {q : Nat} (hq : q < 4) : ∃ z : Int, w.cell? ⟨g, q, none⟩ = some (.int .i64 z) ∧ (z = z0 ∨ z = z1 ∨ z = z2 ∨ z = z3) := ints4 h hq
theorem ints3_at {w : World} {g : Nat} {t : TypeId} {z0 z1 z2 : Int} (h : Blk w g t #[.int .i64 z0, .int .i64 z1, .int .i64 z2]) {q : Nat} (hq : q < 3) : ∃ z : Int, w.cell? ⟨g, q, none⟩ = some (.int .i64 z) ∧ (z = z0 ∨ z = z1 ∨ z = z2) := by
  rw [h.cell]
  rcases (by omega : q = 0 ∨ q = 1 ∨ q = 2) with rfl | rfl | rfl <;> exact ⟨_, rfl, by simp⟩
theorem set_bnd {S : List Int} {i : Nat} {z : Int} (h : ∀ x ∈ S, 0 ≤ x ∧ x ≤ 1000) (hz : -1 ≤ z ∧ z ≤ 100000) : ∀ x ∈ S.set i z, -1 ≤ x ∧ x ≤ 100000 := fun x hx => by
  rcases List.mem_or_eq_of_mem_set hx with h1 | h1
  · have := h x h1; omega
  · subst h1; exact hz
/-- the slice lies in a block from lo on -/
def OffB (lo : Nat) (v : Value) : Prop := ∀ g o n c, v = .slice (some ⟨g, o, none⟩) n c → lo ≤ g
theorem slice_off {lo g0 o0 n0 c0 : Nat} (h : lo ≤ g0) : OffB lo (.slice (some ⟨g0, o0, none⟩) n0 c0) := fun g o n c e => by
  injection e with e1
  injection e1 with e1
  injection e1 with e1
  subst e1
  exact h
theorem own_off {lo : Nat} {v : Value} (h : ∀ k, v.ownBlock = some k → lo ≤ k) : OffB lo v := fun g o n c e => by
  subst e
  exact h g rfl
theorem OffB.chg {w w' : World} {lo b : Nat} {v : Value} {xs : List Int} (h : RInts w v xs) (hb : OffB lo v) (hl : b < lo) (c : Chg [b] w w') : RInts w' v xs := by
  obtain ⟨A, n, e, h1, h2, h3⟩ := h
  refine ⟨A, n, e, h1, h2, ?_⟩
  rcases h3 with h3 | ⟨g, off, hA, h4⟩
  · exact .inl h3
  · refine .inr ⟨g, off, hA, fun i x hx => ?_⟩
    obtain ⟨cs, hl, hc, hr⟩ := h4 i x hx
    refine ⟨cs, hl, fun j u hu => c.cell (hc j u hu) ?_, hr⟩
    have := hb g off _ n (by rw [e, hA])
    simp
    omega
/-- what a drawn table promises -/
def AnyPost (w0 w : World) (b : Nat) (e : Ending) (w' : World) : Prop :=
  ∃ a1 a2 a3 : Value, e = .returned (.agg #[a1, a2, a3]) ∧ ∃ t : TableD, RTable w' [a1, a2, a3] t ∧ (OffB w.heap.size a1 ∧ OffB w.heap.size a2 ∧ OffB w.heap.size a3) ∧ (1 ≤ t.slews.length ∧ t.slews.length ≤ 3) ∧ (∀ x ∈ t.slews, -1 ≤ x ∧ x ≤ 100000) ∧ SrcAt w0 w' b ∧ Chg [b] w w'
def AnyPostS (w0 w : World) (b : Nat) (e : Ending) (w' : World) : Prop :=
  ∃ a1 a2 a3 : Value, e = .returned (.agg #[a1, a2, a3]) ∧ ∃ t : TableD, RTable w' [a1, a2, a3] t ∧ (OffB w.heap.size a1 ∧ OffB w.heap.size a2 ∧ OffB w.heap.size a3) ∧ (1 ≤ t.slews.length ∧ t.slews.length ≤ 3) ∧ (∀ x ∈ t.slews, -1 ≤ x ∧ x ≤ 100000) ∧ SrcAt w0 w' b ∧ Chg [b] w w' ∧ SmTable t
theorem Chg.trans' {bs : List Nat} {a b c : World} {g : Nat} (h : Chg bs a b) (k : Chg [g] b c) (hg : a.heap.size ≤ g) : Chg bs a c :=
  ⟨k.os.trans h.os, k.tape.trans h.tape, k.output.trans h.output, Nat.le_trans h.size k.size, fun q hq hn => (k.block q (Nat.lt_of_lt_of_le hq h.size) (by simp; omega)).trans (h.block q hq hn)⟩
/-- the table lies in its variable: it is handed back -/
theorem any_end {w0 w w8 w9 : World} {b r : Nat} {x1 x2 x3 : Value} {S L Y : List Int} (hw : w0.heap.size ≤ w.heap.size) (hb : b < w.heap.size) (er : r = w.heap.size) (hR : Blk w8 r 136 #[.slice none 0 0, .slice none 0 0, .slice none 0 0]) (h1 : RInts w8 x1 S) (h2 : RInts w8 x2 L) (h3 : RInts w8 x3 Y) (f1 : OffB w.heap.size x1) (f2 : OffB w.heap.size x2) (f3 : OffB w.heap.size x3) (n1 : 1 ≤ S.length ∧ S.length ≤ 3) (sb : ∀ x ∈ S, -1 ≤ x ∧ x ≤ 100000) (hs : SrcAt w0 w8 b) (hc : Chg [b] w w8) (c9 : Chg [r] w8 w9) (sm : L.length ≤ 1000 ∧ Y.length ≤ 1000 := by constructor <;> (first | omega | (simp <;> omega))) :
    AnyPostS w0 w b (.returned (.agg #[x1, x2, x3])) w9 := by
  have hg : ∀ o x, w8.cell? ⟨r, o, none⟩ ≠ some (.int .i64 x) := fun o x e => by
    rw [hR.cell] at e
    match o, e with
    | 0, e => simp at e
    | 1, e => simp at e
    | 2, e => simp at e
    | n + 3, e => simp at e
  exact ⟨_, _, _, rfl, ⟨S, L, Y⟩, ⟨_, _, _, rfl, h1.off c9 hg, h2.off c9 hg, h3.off c9 hg⟩, ⟨f1, f2, f3⟩, n1, sb, hs.chg c9 (by simp; omega) (fun g hm => by simp at hm; omega), hc.trans' c9 (by omega), by have := sm; have := n1.2; unfold SmTable SmL; dsimp only; omega⟩
set_option maxHeartbeats 16000000 in
set_option maxRecDepth 10000 in
theorem l02DrawAny_sm {w0 w : World} {b : Nat} (h : SrcAt w0 w b) :
    Calls Tryz.prog 105 #[.pointer (some ⟨b, 0, none⟩)] w (AnyPostS w0 w b) := by
  have hlt : Hid (b < w.heap.size) := hideIt h.ge.2.2
  have HG : Hid (w0.heap.size ≤ w.heap.size) := hideIt h.ge.2.1.size
  have HS := hideIt (h.grows ((Grows.refl w).alloc (.cells #[.slice none 0 0, .slice none 0 0, .slice none 0 0] 136)))
  have HC : Hid (Chg [b] w (w.alloc (.cells #[.slice none 0 0, .slice none 0 0, .slice none 0 0] 136))) := hideIt ((Chg.refl _ _).alloc _)
  have R := hideIt (Blk.new w 136 #[.slice none 0 0, .slice none 0 0, .slice none 0 0])
  have NR : Hid (w.heap.size ∉ [b]) := hideIt (by have := hlt.out; simp; omega)
  obtain ⟨i0, hi, hz0, hz1, hz2⟩ := info_parts info_i64'
  clear h
  go_enter Tryz.func105, Tryz.ntmps105
  go_wp2_with fail
  refine (l01Next_any (w0 := w0) 100 HS.out).mono ?_
  rintro e u1 ⟨r1, rfl, r1a, r1b, h_, c_⟩
  replace HS := hideIt h_
  replace HC := hideIt (HC.out.trans c_)
  replace R := hideIt (R.out.chg c_ NR.out)
  have SU : Hid (w.heap.size + 1 ≤ u1.heap.size) := hideIt (by simpa using c_.size)
  clear h_ c_
  have r1c := r1b (by omega)
  clear r1b
  go_wp2_with fail
  refine (l02Draw_any (w0 := w0) _ HS.out (by omega) (by omega)).mono ?_
  rintro e u2 ⟨a1, a2, a3, t, bs, rfl, ot, ow, bt, h_, c_, orow⟩
  obtain ⟨S, L, Y⟩ := t
  obtain ⟨⟨n1, n1'⟩, ⟨n2, n2'⟩, n3, bS, -, bY⟩ := bt
  dsimp only at n1 n1' n2 n2' n3 bS bY orow
  have ny : 1 ≤ Y.length := by rw [n3]; exact Nat.mul_pos n1 n2
  have ny9 : Y.length ≤ 9 := by rw [n3]; exact Nat.mul_le_mul n1' n2'
  have su1 : Hid (w.heap.size + 1 ≤ u1.heap.size) := hideIt SU.out
  obtain ⟨g1, c1, g2, c2, g3, c3, rfl, rfl, rfl, o1, o2, o3, ⟨q1, q1'⟩, ⟨q2, q2'⟩, ⟨q3, q3'⟩, d12, d13, d23, ⟨l1, l2, l3⟩, ⟨m1, m2, m3⟩⟩ := table_rows ot ow n1 n2 ny
  have QQ := hideIt (And.intro q1 (And.intro q1' (And.intro q2 (And.intro q2' (And.intro q3 (And.intro q3' (And.intro d12 (And.intro d13 (And.intro d23 n3)))))))))
  clear q1 q1' q2 q2' q3 q3' d12 d13 d23 n3
  have BS := hideIt bS
  have BY := hideIt bY
  have S2 : Hid (u1.heap.size ≤ u2.heap.size) := hideIt c_.size
  replace R := hideIt (R.out.chg c_ NR.out)
  replace HC := hideIt (HC.out.trans c_)
  replace HS := hideIt h_
  have OR := hideIt (ownsRow_base orow (Nat.le_trans su1.out (by omega)))
  clear h_ c_ ot ow bS bY orow
  have gal : Grows u2 (u2.alloc (.cells #[.slice (some ⟨g1, 0, none⟩) S.length c1, .slice (some ⟨g2, 0, none⟩) L.length c2, .slice (some ⟨g3, 0, none⟩) Y.length c3] 136)) := (Grows.refl _).alloc _
  have V := hideIt (Blk.new u2 136 #[.slice (some ⟨g1, 0, none⟩) S.length c1, .slice (some ⟨g2, 0, none⟩) L.length c2, .slice (some ⟨g3, 0, none⟩) Y.length c3])
  replace R := hideIt (R.out.grows gal)
  have O1 := hideIt (o1.chg (cs := []) (Chg.of_grows gal) (fun _ _ h => by cases h))
  have O2 := hideIt (o2.chg (cs := []) (Chg.of_grows gal) (fun _ _ h => by cases h))
  have O3 := hideIt (o3.chg (cs := []) (Chg.of_grows gal) (fun _ _ h => by cases h))
  replace OR := hideIt (ownsRow_chg (bs := []) OR.out (Chg.of_grows gal) (fun _ h => by cases h))
  replace HC := hideIt (HC.out.alloc (.cells #[.slice (some ⟨g1, 0, none⟩) S.length c1, .slice (some ⟨g2, 0, none⟩) L.length c2, .slice (some ⟨g3, 0, none⟩) Y.length c3] 136))
  replace HS := hideIt (HS.out.grows gal)
  have NV : Hid (u2.heap.size ∉ [b]) := hideIt (by have := hlt.out; have := su1.out; have := S2.out; simp; omega)
  have N1 : Hid (∀ g ∈ [g1], g ∉ [b]) := hideIt (fun g hg => by have := QQ.out; have := hlt.out; have := su1.out; simp at hg; subst hg; simp; omega)
  have N2 : Hid (∀ g ∈ [g2], g ∉ [b]) := hideIt (fun g hg => by have := QQ.out; have := hlt.out; have := su1.out; simp at hg; subst hg; simp; omega)
  have N3 : Hid (∀ g ∈ [g3], g ∉ [b]) := hideIt (fun g hg => by have := QQ.out; have := hlt.out; have := su1.out; simp at hg; subst hg; simp; omega)
  have NB : Hid (∀ g ∈ [b], g < w.heap.size + 1) := hideIt (fun g hg => by have := hlt.out; simp at hg; subst hg; omega)
  clear gal o1 o2 o3
  go_wp2_with fail
  refine (l01Next_any (w0 := w0) _ HS.out).mono ?_
  rintro e u3 ⟨k_, rfl, k_a, k_b, h_, c_⟩
  replace HS := hideIt h_
  replace HC := hideIt (HC.out.trans c_)
  replace R := hideIt (R.out.chg c_ NR.out)
  replace V := hideIt (V.out.chg c_ NV.out)
  replace O1 := hideIt (O1.out.chg c_ N1.out)
  replace O2 := hideIt (O2.out.chg c_ N2.out)
  replace O3 := hideIt (O3.out.chg c_ N3.out)
  replace OR := hideIt (ownsRow_chg OR.out c_ NB.out)
  clear h_ c_
  have k_c := k_b (by omega)
  clear k_b
  obtain ⟨k, rfl⟩ : ∃ k : Nat, k_ = (k : Int) := ⟨k_.toNat, by omega⟩
  have kY : k < Y.length := by omega
  clear k_a k_c
  go_wp2_with fail
  refine (l01Next_any (w0 := w0) _ HS.out).mono ?_
  rintro e u4 ⟨r, rfl, ra, rb, h_, c_⟩
  replace HS := hideIt h_
  replace HC := hideIt (HC.out.trans c_)
  replace R := hideIt (R.out.chg c_ NR.out)
  replace V := hideIt (V.out.chg c_ NV.out)
  replace O1 := hideIt (O1.out.chg c_ N1.out)
  replace O2 := hideIt (O2.out.chg c_ N2.out)
  replace O3 := hideIt (O3.out.chg c_ N3.out)
  replace OR := hideIt (ownsRow_chg OR.out c_ NB.out)
  clear h_ c_
  have rc := rb (by omega)
  clear rb
  have kV0 : u4.cell? ⟨u2.heap.size, 0, none⟩ = some (.slice (some ⟨g1, 0, none⟩) S.length c1) := V.out.cell 0
  have kV1 : u4.cell? ⟨u2.heap.size, 1, none⟩ = some (.slice (some ⟨g2, 0, none⟩) L.length c2) := V.out.cell 1
  have kV2 : u4.cell? ⟨u2.heap.size, 2, none⟩ = some (.slice (some ⟨g3, 0, none⟩) Y.length c3) := V.out.cell 2
  have fV := V.out.frozen
  have lV := V.out.lt
  by_cases e0 : r = 0
  · subst e0
    have ip : k < Y.length := kY
    have DB : Hid (u2.heap.size ∉ [b, g3]) := hideIt (by have := QQ.out; have := hlt.out; have := su1.out; have := S2.out; simp; omega)
    have HK : Hid (∀ w', Chg [b, g3] u4 w' → w'.cell? ⟨u2.heap.size, 2, none⟩ = some (.slice (some ⟨g3, 0, none⟩) Y.length c3)) := hideIt (fun w' c => c.cell kV2 DB.out)
    have gg : Chg [b, g3] u4 u4 := Chg.refl _ _
    have kf := O3.out.fr (by omega)
    have kl := O3.out.lt g3 (by simp)
    obtain ⟨yk, h_⟩ : ∃ y, Y[k]? = some y := ⟨_, List.getElem?_eq_getElem kY⟩
    have kc := O3.out.at h_
    clear h_
    clear kV0 kV1 kV2 fV lV
    go_wp2
    refine wp_region_held_drew (S := (fun w' => w'.cell? ⟨u2.heap.size, 2, none⟩ = some (.slice (some ⟨g3, 0, none⟩) Y.length c3))) (by kernel_rfl) ?_ (fun hh0 => ?_)
    · (try dsimp only); refine HK.out _ ?_; (repeat (first | exact gg | refine Chg.drew ?_ | refine Chg.drewN ?_ _ | refine Chg.alloc ?_ _ | refine Chg.setCell ?_ (by simp) _))
    refine regTk 0 hh0 ?_
    refine regTk 1 hh0 ?_
    refine regTk 2 hh0 ?_
    refine regTk 4 hh0 ?_
    refine regCall2 3 5 (fun K hK => ?_) (fun K hK => ?_)
    · go_simp
      have al_ : Grows (u4) (World.alloc (u4) (.cells #[.int .i64 (-50), .int .i64 1000000, .int .i64 1000001, .int .i64 (-1000000)] 2)) := (Grows.refl _).alloc _
      have B5 := hideIt (Blk.new (u4) 2 #[.int .i64 (-50), .int .i64 1000000, .int .i64 1000001, .int .i64 (-1000000)])
      have lb5 : b < (u4).heap.size := HS.out.ge.2.2
      generalize World.alloc (u4) (.cells #[.int .i64 (-50), .int .i64 1000000, .int .i64 1000001, .int .i64 (-1000000)] 2) = u5 at al_ B5 ⊢
      have c_ : Chg [b] u4 u5 := ⟨al_.os, al_.tape, al_.output, al_.size, fun g hg _ => Below.block al_ g hg⟩
      replace R := hideIt (R.out.chg c_ NR.out)
      replace V := hideIt (V.out.chg c_ NV.out)
      replace O1 := hideIt (O1.out.chg c_ N1.out)
      replace O2 := hideIt (O2.out.chg c_ N2.out)
      replace O3 := hideIt (O3.out.chg c_ N3.out)
      replace HC := hideIt (HC.out.trans c_)
      replace HS := hideIt ((HS.out.grows (by repeat (first | exact Grows.refl _ | refine Grows.drew ?_ | refine Grows.drewN ?_ _)) : SrcAt w0 (u4) b).grows al_)
      have gg := gg.trans (c_.mono (by simp))
      have kf := O3.out.fr (by omega)
      have kl := O3.out.lt g3 (by simp)
      obtain ⟨yk, hy_⟩ : ∃ y, Y[k]? = some y := ⟨_, List.getElem?_eq_getElem kY⟩
      have kc := O3.out.at hy_
      clear hy_
      clear c_ al_
      (try go_wp2_with fail)
      refine hK.out _ _ ?_ (fun hh1 => ?_)
      · (try dsimp only); refine HK.out _ ?_; (repeat (first | exact gg | refine Chg.drew ?_ | refine Chg.drewN ?_ _ | refine Chg.alloc ?_ _ | refine Chg.setCell ?_ (by simp) _))
      clear hK K hh0
      try simp only [Act.put, List.setIfInBounds_toArray, List.set_cons_zero, List.set_cons_succ]
      refine regCall 5 (fun K hK => ?_)
      go_simp
      refine (l01Next_any (w0 := w0) _ (HS.out.grows (by repeat (first | exact Grows.refl _ | refine Grows.drew ?_ | refine Grows.drewN ?_ _)))).mono ?_
      rintro e u6 ⟨p_, rfl, p_a, p_b, h_, c0_⟩
      have c_ : Chg [b] u5 u6 := ⟨c0_.os, c0_.tape, c0_.output, c0_.size, c0_.block⟩
      replace R := hideIt (R.out.chg c_ NR.out)
      replace V := hideIt (V.out.chg c_ NV.out)
      replace O1 := hideIt (O1.out.chg c_ N1.out)
      replace O2 := hideIt (O2.out.chg c_ N2.out)
      replace O3 := hideIt (O3.out.chg c_ N3.out)
      replace HC := hideIt (HC.out.trans c_)
      replace HS := hideIt h_
      have gg := gg.trans (c_.mono (by simp))
      have kf := O3.out.fr (by omega)
      have kl := O3.out.lt g3 (by simp)
      obtain ⟨yk, hy_⟩ : ∃ y, Y[k]? = some y := ⟨_, List.getElem?_eq_getElem kY⟩
      have kc := O3.out.at hy_
      clear hy_
      obtain ⟨q, rfl⟩ : ∃ q : Nat, p_ = (q : Int) := ⟨p_.toNat, by omega⟩
      have qn : q < 4 := by have := p_b (by omega); omega
      have qn2 : (q : Int) < 4 := by omega
      have B6 := hideIt (B5.out.chg c_ (by simp; have := lb5; omega))
      obtain ⟨zz, kz, hz⟩ := ints4_at B6.out qn
      clear h_ c0_ c_ p_a p_b
      (try go_wp2_with fail)
      refine hK.out _ _ ?_ (fun hh2 => ?_)
      · (try dsimp only); refine HK.out _ ?_; (repeat (first | exact gg | refine Chg.drew ?_ | refine Chg.drewN ?_ _ | refine Chg.alloc ?_ _ | refine Chg.setCell ?_ (by simp) _))
      clear hK K hh1
      try simp only [Act.put, List.setIfInBounds_toArray, List.set_cons_zero, List.set_cons_succ]
      refine regTk 6 hh2 ?_
      refine regCall 7 (fun K hK => ?_)
      go_simp
      (try go_wp2_with fail)
      refine hK.out _ _ ?_ (fun hh3 => ?_)
      · (try dsimp only); refine HK.out _ ?_; (repeat (first | exact gg | refine Chg.drew ?_ | refine Chg.drewN ?_ _ | refine Chg.alloc ?_ _ | refine Chg.setCell ?_ (by simp) _))
      clear hK K hh2
      try simp only [Act.put, List.setIfInBounds_toArray, List.set_cons_zero, List.set_cons_succ]
      refine regTk 8 hh3 ?_
      refine regCall 9 (fun K hK => ?_)
      go_simp
      (try go_wp2_with fail)
      refine hK.out _ _ ?_ (fun hh4 => ?_)
      · (try dsimp only); refine HK.out _ ?_; (repeat (first | exact gg | refine Chg.drew ?_ | refine Chg.drewN ?_ _ | refine Chg.alloc ?_ _ | refine Chg.setCell ?_ (by simp) _))
      clear hK K hh3
      try simp only [Act.put, List.setIfInBounds_toArray, List.set_cons_zero, List.set_cons_succ]
      refine wpAnyH_done (by kernel_rfl) ?_ _
      have cset : Chg [g3] u6 (u6.setCell ⟨g3, k, none⟩ (.int .i64 zz)) := (Chg.refl _ _).setCell (by simp) _
      have dR : w.heap.size ∉ [g3] := by have := QQ.out; have := su1.out; simp; omega
      have dV : u2.heap.size ∉ [g3] := by have := QQ.out; have := S2.out; simp; omega
      have R8 := hideIt (R.out.chg cset dR)
      have V8 := hideIt (V.out.chg cset dV)
      have X1 := hideIt ((O1.out.chg cset (by have := QQ.out; simp; omega)).reads)
      have X2 := hideIt ((O2.out.chg cset (by have := QQ.out; simp; omega)).reads)
      have X3 := hideIt ((O3.out.set_ kY zz).reads)
      have HS8 := hideIt (HS.out.chg cset (by have := QQ.out; have := hlt.out; have := su1.out; simp; omega) (fun g hg => by have := QQ.out; have := hlt.out; have := su1.out; have := HG.out; simp at hg; subst hg; omega))
      have HC8 := hideIt (HC.out.trans' cset (by have := QQ.out; have := su1.out; omega))
      generalize u6.setCell ⟨g3, k, none⟩ (.int .i64 zz) = w8 at cset R8 V8 X1 X2 X3 HS8 HC8 ⊢
      clear kf kl kc kz hh4 HK gg
      have kV0 : w8.cell? ⟨u2.heap.size, 0, none⟩ = some (.slice (some ⟨g1, 0, none⟩) S.length c1) := V8.out.cell 0
      have kV1 : w8.cell? ⟨u2.heap.size, 1, none⟩ = some (.slice (some ⟨g2, 0, none⟩) L.length c2) := V8.out.cell 1
      have kV2 : w8.cell? ⟨u2.heap.size, 2, none⟩ = some (.slice (some ⟨g3, 0, none⟩) Y.length c3) := V8.out.cell 2
      have fV := V8.out.frozen
      have lV := V8.out.lt
      have kR0 := R8.out.cell 0
      have kR1 := R8.out.cell 1
      have kR2 := R8.out.cell 2
      simp at kR0 kR1 kR2
      have fR := R8.out.frozen
      have lR := R8.out.lt
      go_wp2
      refine bodyPost_ret (by simp [*, results, Tryz.results105, go_sem]; try rfl) rfl ?_
      exact any_end (S := S) (L := L) (Y := (Y.set k zz)) HG.out hlt.out rfl R8.out X1.out X2.out X3.out (slice_off (by have := QQ.out; have := su1.out; omega)) (slice_off (by have := QQ.out; have := su1.out; omega)) (slice_off (by have := QQ.out; have := su1.out; omega)) (by first | exact ⟨n1, n1'⟩ | (rw [List.length_set]; exact ⟨n1, n1'⟩)) (fun x hx => by have := BS.out x hx; omega) HS8.out HC8.out (by repeat (first | exact Chg.refl _ _ | refine Chg.drew ?_ | refine Chg.drewN ?_ _ | refine Chg.setCell ?_ (by simp) _))
    · go_simp
      refine (l01Next_any (w0 := w0) _ (HS.out.grows (by repeat (first | exact Grows.refl _ | refine Grows.drew ?_ | refine Grows.drewN ?_ _)))).mono ?_
      rintro e u5 ⟨p_, rfl, p_a, p_b, h_, c0_⟩
      have c_ : Chg [b] u4 u5 := ⟨c0_.os, c0_.tape, c0_.output, c0_.size, c0_.block⟩
      replace R := hideIt (R.out.chg c_ NR.out)
      replace V := hideIt (V.out.chg c_ NV.out)
      replace O1 := hideIt (O1.out.chg c_ N1.out)
      replace O2 := hideIt (O2.out.chg c_ N2.out)
      replace O3 := hideIt (O3.out.chg c_ N3.out)
      replace HC := hideIt (HC.out.trans c_)
      replace HS := hideIt h_
      have gg := gg.trans (c_.mono (by simp))
      have kf := O3.out.fr (by omega)
      have kl := O3.out.lt g3 (by simp)
      obtain ⟨yk, hy_⟩ : ∃ y, Y[k]? = some y := ⟨_, List.getElem?_eq_getElem kY⟩
      have kc := O3.out.at hy_
      clear hy_
      obtain ⟨q, rfl⟩ : ∃ q : Nat, p_ = (q : Int) := ⟨p_.toNat, by omega⟩
      have qn : q < 4 := by have := p_b (by omega); omega
      have qn2 : (q : Int) < 4 := by omega
      clear h_ c0_ c_ p_a p_b
      (try go_wp2_with fail)
      refine hK.out _ _ ?_ (fun hh1 => ?_)
      · (try dsimp only); refine HK.out _ ?_; (repeat (first | exact gg | refine Chg.drew ?_ | refine Chg.drewN ?_ _ | refine Chg.alloc ?_ _ | refine Chg.setCell ?_ (by simp) _))
      clear hK K hh0
      try simp only [Act.put, List.setIfInBounds_toArray, List.set_cons_zero, List.set_cons_succ]
      refine regCall 3 (fun K hK => ?_)
      go_simp
      have al_ : Grows (u5) (World.alloc (u5) (.cells #[.int .i64 (-50), .int .i64 1000000, .int .i64 1000001, .int .i64 (-1000000)] 2)) := (Grows.refl _).alloc _
      have B5 := hideIt (Blk.new (u5) 2 #[.int .i64 (-50), .int .i64 1000000, .int .i64 1000001, .int .i64 (-1000000)])
      have lb5 : b < (u5).heap.size := HS.out.ge.2.2
      generalize World.alloc (u5) (.cells #[.int .i64 (-50), .int .i64 1000000, .int .i64 1000001, .int .i64 (-1000000)] 2) = u6 at al_ B5 ⊢
      have c_ : Chg [b] u5 u6 := ⟨al_.os, al_.tape, al_.output, al_.size, fun g hg _ => Below.block al_ g hg⟩
      replace R := hideIt (R.out.chg c_ NR.out)
      replace V := hideIt (V.out.chg c_ NV.out)
      replace O1 := hideIt (O1.out.chg c_ N1.out)
      replace O2 := hideIt (O2.out.chg c_ N2.out)
      replace O3 := hideIt (O3.out.chg c_ N3.out)
      replace HC := hideIt (HC.out.trans c_)
      replace HS := hideIt ((HS.out.grows (by repeat (first | exact Grows.refl _ | refine Grows.drew ?_ | refine Grows.drewN ?_ _)) : SrcAt w0 (u5) b).grows al_)
      have gg := gg.trans (c_.mono (by simp))
      have kf := O3.out.fr (by omega)
      have kl := O3.out.lt g3 (by simp)
      obtain ⟨yk, hy_⟩ : ∃ y, Y[k]? = some y := ⟨_, List.getElem?_eq_getElem kY⟩
      have kc := O3.out.at hy_
      clear hy_
      obtain ⟨zz, kz, hz⟩ := ints4_at B5.out qn
      clear c_ al_
      (try go_wp2_with fail)
      refine hK.out _ _ ?_ (fun hh2 => ?_)
      · (try dsimp only); refine HK.out _ ?_; (repeat (first | exact gg | refine Chg.drew ?_ | refine Chg.drewN ?_ _ | refine Chg.alloc ?_ _ | refine Chg.setCell ?_ (by simp) _))
      clear hK K hh1
      try simp only [Act.put, List.setIfInBounds_toArray, List.set_cons_zero, List.set_cons_succ]
      refine regTk 6 hh2 ?_
      refine regCall 7 (fun K hK => ?_)
      go_simp
      (try go_wp2_with fail)
      refine hK.out _ _ ?_ (fun hh3 => ?_)
      · (try dsimp only); refine HK.out _ ?_; (repeat (first | exact gg | refine Chg.drew ?_ | refine Chg.drewN ?_ _ | refine Chg.alloc ?_ _ | refine Chg.setCell ?_ (by simp) _))
      clear hK K hh2
      try simp only [Act.put, List.setIfInBounds_toArray, List.set_cons_zero, List.set_cons_succ]
      refine regTk 8 hh3 ?_
      refine regCall 9 (fun K hK => ?_)
      go_simp
      (try go_wp2_with fail)
      refine hK.out _ _ ?_ (fun hh4 => ?_)
      · (try dsimp only); refine HK.out _ ?_; (repeat (first | exact gg | refine Chg.drew ?_ | refine Chg.drewN ?_ _ | refine Chg.alloc ?_ _ | refine Chg.setCell ?_ (by simp) _))
      clear hK K hh3
      try simp only [Act.put, List.setIfInBounds_toArray, List.set_cons_zero, List.set_cons_succ]
      refine wpAnyH_done (by kernel_rfl) ?_ _
      have cset : Chg [g3] u6 (u6.setCell ⟨g3, k, none⟩ (.int .i64 zz)) := (Chg.refl _ _).setCell (by simp) _
      have dR : w.heap.size ∉ [g3] := by have := QQ.out; have := su1.out; simp; omega
      have dV : u2.heap.size ∉ [g3] := by have := QQ.out; have := S2.out; simp; omega
      have R8 := hideIt (R.out.chg cset dR)
      have V8 := hideIt (V.out.chg cset dV)
      have X1 := hideIt ((O1.out.chg cset (by have := QQ.out; simp; omega)).reads)
      have X2 := hideIt ((O2.out.chg cset (by have := QQ.out; simp; omega)).reads)
      have X3 := hideIt ((O3.out.set_ kY zz).reads)
      have HS8 := hideIt (HS.out.chg cset (by have := QQ.out; have := hlt.out; have := su1.out; simp; omega) (fun g hg => by have := QQ.out; have := hlt.out; have := su1.out; have := HG.out; simp at hg; subst hg; omega))
      have HC8 := hideIt (HC.out.trans' cset (by have := QQ.out; have := su1.out; omega))
      generalize u6.setCell ⟨g3, k, none⟩ (.int .i64 zz) = w8 at cset R8 V8 X1 X2 X3 HS8 HC8 ⊢
      clear kf kl kc kz hh4 HK gg
      have kV0 : w8.cell? ⟨u2.heap.size, 0, none⟩ = some (.slice (some ⟨g1, 0, none⟩) S.length c1) := V8.out.cell 0
      have kV1 : w8.cell? ⟨u2.heap.size, 1, none⟩ = some (.slice (some ⟨g2, 0, none⟩) L.length c2) := V8.out.cell 1
      have kV2 : w8.cell? ⟨u2.heap.size, 2, none⟩ = some (.slice (some ⟨g3, 0, none⟩) Y.length c3) := V8.out.cell 2
      have fV := V8.out.frozen
      have lV := V8.out.lt
      have kR0 := R8.out.cell 0
      have kR1 := R8.out.cell 1
      have kR2 := R8.out.cell 2
      simp at kR0 kR1 kR2
      have fR := R8.out.frozen
      have lR := R8.out.lt
      go_wp2
      refine bodyPost_ret (by simp [*, results, Tryz.results105, go_sem]; try rfl) rfl ?_
      exact any_end (S := S) (L := L) (Y := (Y.set k zz)) HG.out hlt.out rfl R8.out X1.out X2.out X3.out (slice_off (by have := QQ.out; have := su1.out; omega)) (slice_off (by have := QQ.out; have := su1.out; omega)) (slice_off (by have := QQ.out; have := su1.out; omega)) (by first | exact ⟨n1, n1'⟩ | (rw [List.length_set]; exact ⟨n1, n1'⟩)) (fun x hx => by have := BS.out x hx; omega) HS8.out HC8.out (by repeat (first | exact Chg.refl _ _ | refine Chg.drew ?_ | refine Chg.drewN ?_ _ | refine Chg.setCell ?_ (by simp) _))
  by_cases e1 : r = 1
  · subst e1
    have ip : 0 < S.length := n1
    have DB : Hid (u2.heap.size ∉ [b, g1]) := hideIt (by have := QQ.out; have := hlt.out; have := su1.out; have := S2.out; simp; omega)
    have HK : Hid (∀ w', Chg [b, g1] u4 w' → w'.cell? ⟨u2.heap.size, 0, none⟩ = some (.slice (some ⟨g1, 0, none⟩) S.length c1)) := hideIt (fun w' c => c.cell kV0 DB.out)
    have gg : Chg [b, g1] u4 u4 := Chg.refl _ _
    have kf := O1.out.fr (by omega)
    have kl := O1.out.lt g1 (by simp)
    obtain ⟨yk, h_⟩ : ∃ y, S[0]? = some y := ⟨_, List.getElem?_eq_getElem n1⟩
    have kc := O1.out.at h_
    clear h_
    clear kV0 kV1 kV2 fV lV
    go_wp2
    refine wp_region_held_drew (S := (fun w' => w'.cell? ⟨u2.heap.size, 0, none⟩ = some (.slice (some ⟨g1, 0, none⟩) S.length c1))) (by kernel_rfl) ?_ (fun hh0 => ?_)
    · (try dsimp only); refine HK.out _ ?_; (repeat (first | exact gg | refine Chg.drew ?_ | refine Chg.drewN ?_ _ | refine Chg.alloc ?_ _ | refine Chg.setCell ?_ (by simp) _))
    refine regTk 0 hh0 ?_
    refine regTk 1 hh0 ?_
    refine regTk 3 hh0 ?_
    refine regCall2 2 4 (fun K hK => ?_) (fun K hK => ?_)
    · go_simp
      have al_ : Grows (u4) (World.alloc (u4) (.cells #[.int .i64 (-1), .int .i64 100000, .int .i64 7] 2)) := (Grows.refl _).alloc _
      have B5 := hideIt (Blk.new (u4) 2 #[.int .i64 (-1), .int .i64 100000, .int .i64 7])
      have lb5 : b < (u4).heap.size := HS.out.ge.2.2
      generalize World.alloc (u4) (.cells #[.int .i64 (-1), .int .i64 100000, .int .i64 7] 2) = u5 at al_ B5 ⊢
      have c_ : Chg [b] u4 u5 := ⟨al_.os, al_.tape, al_.output, al_.size, fun g hg _ => Below.block al_ g hg⟩
      replace R := hideIt (R.out.chg c_ NR.out)
      replace V := hideIt (V.out.chg c_ NV.out)
      replace O1 := hideIt (O1.out.chg c_ N1.out)
      replace O2 := hideIt (O2.out.chg c_ N2.out)
      replace O3 := hideIt (O3.out.chg c_ N3.out)
      replace HC := hideIt (HC.out.trans c_)
      replace HS := hideIt ((HS.out.grows (by repeat (first | exact Grows.refl _ | refine Grows.drew ?_ | refine Grows.drewN ?_ _)) : SrcAt w0 (u4) b).grows al_)
      have gg := gg.trans (c_.mono (by simp))
      have kf := O1.out.fr (by omega)
      have kl := O1.out.lt g1 (by simp)
      obtain ⟨yk, hy_⟩ : ∃ y, S[0]? = some y := ⟨_, List.getElem?_eq_getElem n1⟩
      have kc := O1.out.at hy_
      clear hy_
      clear c_ al_
      (try go_wp2_with fail)
      refine hK.out _ _ ?_ (fun hh1 => ?_)
      · (try dsimp only); refine HK.out _ ?_; (repeat (first | exact gg | refine Chg.drew ?_ | refine Chg.drewN ?_ _ | refine Chg.alloc ?_ _ | refine Chg.setCell ?_ (by simp) _))
      clear hK K hh0
      try simp only [Act.put, List.setIfInBounds_toArray, List.set_cons_zero, List.set_cons_succ]
      refine regCall 4 (fun K hK => ?_)
      go_simp
      refine (l01Next_any (w0 := w0) _ (HS.out.grows (by repeat (first | exact Grows.refl _ | refine Grows.drew ?_ | refine Grows.drewN ?_ _)))).mono ?_
      rintro e u6 ⟨p_, rfl, p_a, p_b, h_, c0_⟩
      have c_ : Chg [b] u5 u6 := ⟨c0_.os, c0_.tape, c0_.output, c0_.size, c0_.block⟩
      replace R := hideIt (R.out.chg c_ NR.out)
      replace V := hideIt (V.out.chg c_ NV.out)
      replace O1 := hideIt (O1.out.chg c_ N1.out)
      replace O2 := hideIt (O2.out.chg c_ N2.out)
      replace O3 := hideIt (O3.out.chg c_ N3.out)
      replace HC := hideIt (HC.out.trans c_)
      replace HS := hideIt h_
      have gg := gg.trans (c_.mono (by simp))
      have kf := O1.out.fr (by omega)
      have kl := O1.out.lt g1 (by simp)
      obtain ⟨yk, hy_⟩ : ∃ y, S[0]? = some y := ⟨_, List.getElem?_eq_getElem n1⟩
      have kc := O1.out.at hy_
      clear hy_
      obtain ⟨q, rfl⟩ : ∃ q : Nat, p_ = (q : Int) := ⟨p_.toNat, by omega⟩
      have qn : q < 3 := by have := p_b (by omega); omega
      have qn2 : (q : Int) < 3 := by omega
      have B6 := hideIt (B5.out.chg c_ (by simp; have := lb5; omega))
      obtain ⟨zz, kz, hz⟩ := ints3_at B6.out qn
      clear h_ c0_ c_ p_a p_b
      (try go_wp2_with fail)
      refine hK.out _ _ ?_ (fun hh2 => ?_)
      · (try dsimp only); refine HK.out _ ?_; (repeat (first | exact gg | refine Chg.drew ?_ | refine Chg.drewN ?_ _ | refine Chg.alloc ?_ _ | refine Chg.setCell ?_ (by simp) _))
      clear hK K hh1
      try simp only [Act.put, List.setIfInBounds_toArray, List.set_cons_zero, List.set_cons_succ]
      refine regTk 5 hh2 ?_
      refine regCall 6 (fun K hK => ?_)
      go_simp
      (try go_wp2_with fail)
      refine hK.out _ _ ?_ (fun hh3 => ?_)
      · (try dsimp only); refine HK.out _ ?_; (repeat (first | exact gg | refine Chg.drew ?_ | refine Chg.drewN ?_ _ | refine Chg.alloc ?_ _ | refine Chg.setCell ?_ (by simp) _))
      clear hK K hh2
      try simp only [Act.put, List.setIfInBounds_toArray, List.set_cons_zero, List.set_cons_succ]
      refine regTk 7 hh3 ?_
      refine regCall 8 (fun K hK => ?_)
      go_simp
      (try go_wp2_with fail)
      refine hK.out _ _ ?_ (fun hh4 => ?_)
      · (try dsimp only); refine HK.out _ ?_; (repeat (first | exact gg | refine Chg.drew ?_ | refine Chg.drewN ?_ _ | refine Chg.alloc ?_ _ | refine Chg.setCell ?_ (by simp) _))
      clear hK K hh3
      try simp only [Act.put, List.setIfInBounds_toArray, List.set_cons_zero, List.set_cons_succ]
      refine wpAnyH_done (by kernel_rfl) ?_ _
      have cset : Chg [g1] u6 (u6.setCell ⟨g1, 0, none⟩ (.int .i64 zz)) := (Chg.refl _ _).setCell (by simp) _
      have dR : w.heap.size ∉ [g1] := by have := QQ.out; have := su1.out; simp; omega
      have dV : u2.heap.size ∉ [g1] := by have := QQ.out; have := S2.out; simp; omega
      have R8 := hideIt (R.out.chg cset dR)
      have V8 := hideIt (V.out.chg cset dV)
      have X1 := hideIt ((O1.out.set_ n1 zz).reads)
      have X2 := hideIt ((O2.out.chg cset (by have := QQ.out; simp; omega)).reads)
      have X3 := hideIt ((O3.out.chg cset (by have := QQ.out; simp; omega)).reads)
      have HS8 := hideIt (HS.out.chg cset (by have := QQ.out; have := hlt.out; have := su1.out; simp; omega) (fun g hg => by have := QQ.out; have := hlt.out; have := su1.out; have := HG.out; simp at hg; subst hg; omega))
      have HC8 := hideIt (HC.out.trans' cset (by have := QQ.out; have := su1.out; omega))
      generalize u6.setCell ⟨g1, 0, none⟩ (.int .i64 zz) = w8 at cset R8 V8 X1 X2 X3 HS8 HC8 ⊢
      clear kf kl kc kz hh4 HK gg
      have kV0 : w8.cell? ⟨u2.heap.size, 0, none⟩ = some (.slice (some ⟨g1, 0, none⟩) S.length c1) := V8.out.cell 0
      have kV1 : w8.cell? ⟨u2.heap.size, 1, none⟩ = some (.slice (some ⟨g2, 0, none⟩) L.length c2) := V8.out.cell 1
      have kV2 : w8.cell? ⟨u2.heap.size, 2, none⟩ = some (.slice (some ⟨g3, 0, none⟩) Y.length c3) := V8.out.cell 2
      have fV := V8.out.frozen
      have lV := V8.out.lt
      have kR0 := R8.out.cell 0
      have kR1 := R8.out.cell 1
      have kR2 := R8.out.cell 2
      simp at kR0 kR1 kR2
      have fR := R8.out.frozen
      have lR := R8.out.lt
      go_wp2
      refine bodyPost_ret (by simp [*, results, Tryz.results105, go_sem]; try rfl) rfl ?_
      exact any_end (S := (S.set 0 zz)) (L := L) (Y := Y) HG.out hlt.out rfl R8.out X1.out X2.out X3.out (slice_off (by have := QQ.out; have := su1.out; omega)) (slice_off (by have := QQ.out; have := su1.out; omega)) (slice_off (by have := QQ.out; have := su1.out; omega)) (by first | exact ⟨n1, n1'⟩ | (rw [List.length_set]; exact ⟨n1, n1'⟩)) (set_bnd BS.out (by omega)) HS8.out HC8.out (by repeat (first | exact Chg.refl _ _ | refine Chg.drew ?_ | refine Chg.drewN ?_ _ | refine Chg.setCell ?_ (by simp) _))
    · go_simp
      refine (l01Next_any (w0 := w0) _ (HS.out.grows (by repeat (first | exact Grows.refl _ | refine Grows.drew ?_ | refine Grows.drewN ?_ _)))).mono ?_
      rintro e u5 ⟨p_, rfl, p_a, p_b, h_, c0_⟩
      have c_ : Chg [b] u4 u5 := ⟨c0_.os, c0_.tape, c0_.output, c0_.size, c0_.block⟩
      replace R := hideIt (R.out.chg c_ NR.out)
      replace V := hideIt (V.out.chg c_ NV.out)
      replace O1 := hideIt (O1.out.chg c_ N1.out)
      replace O2 := hideIt (O2.out.chg c_ N2.out)
      replace O3 := hideIt (O3.out.chg c_ N3.out)
      replace HC := hideIt (HC.out.trans c_)
      replace HS := hideIt h_
      have gg := gg.trans (c_.mono (by simp))
      have kf := O1.out.fr (by omega)
      have kl := O1.out.lt g1 (by simp)
      obtain ⟨yk, hy_⟩ : ∃ y, S[0]? = some y := ⟨_, List.getElem?_eq_getElem n1⟩
      have kc := O1.out.at hy_
      clear hy_
      obtain ⟨q, rfl⟩ : ∃ q : Nat, p_ = (q : Int) := ⟨p_.toNat, by omega⟩
      have qn : q < 3 := by have := p_b (by omega); omega
      have qn2 : (q : Int) < 3 := by omega
      clear h_ c0_ c_ p_a p_b
      (try go_wp2_with fail)
      refine hK.out _ _ ?_ (fun hh1 => ?_)
      · (try dsimp only); refine HK.out _ ?_; (repeat (first | exact gg | refine Chg.drew ?_ | refine Chg.drewN ?_ _ | refine Chg.alloc ?_ _ | refine Chg.setCell ?_ (by simp) _))
      clear hK K hh0
      try simp only [Act.put, List.setIfInBounds_toArray, List.set_cons_zero, List.set_cons_succ]
      refine regCall 2 (fun K hK => ?_)
      go_simp
      have al_ : Grows (u5) (World.alloc (u5) (.cells #[.int .i64 (-1), .int .i64 100000, .int .i64 7] 2)) := (Grows.refl _).alloc _
      have B5 := hideIt (Blk.new (u5) 2 #[.int .i64 (-1), .int .i64 100000, .int .i64 7])
      have lb5 : b < (u5).heap.size := HS.out.ge.2.2
      generalize World.alloc (u5) (.cells #[.int .i64 (-1), .int .i64 100000, .int .i64 7] 2) = u6 at al_ B5 ⊢
      have c_ : Chg [b] u5 u6 := ⟨al_.os, al_.tape, al_.output, al_.size, fun g hg _ => Below.block al_ g hg⟩
      replace R := hideIt (R.out.chg c_ NR.out)
      replace V := hideIt (V.out.chg c_ NV.out)
      replace O1 := hideIt (O1.out.chg c_ N1.out)
      replace O2 := hideIt (O2.out.chg c_ N2.out)
      replace O3 := hideIt (O3.out.chg c_ N3.out)
      replace HC := hideIt (HC.out.trans c_)
      replace HS := hideIt ((HS.out.grows (by repeat (first | exact Grows.refl _ | refine Grows.drew ?_ | refine Grows.drewN ?_ _)) : SrcAt w0 (u5) b).grows al_)
      have gg := gg.trans (c_.mono (by simp))
      have kf := O1.out.fr (by omega)
      have kl := O1.out.lt g1 (by simp)
      obtain ⟨yk, hy_⟩ : ∃ y, S[0]? = some y := ⟨_, List.getElem?_eq_getElem n1⟩
      have kc := O1.out.at hy_
      clear hy_
      obtain ⟨zz, kz, hz⟩ := ints3_at B5.out qn
      clear c_ al_
      (try go_wp2_with fail)
      refine hK.out _ _ ?_ (fun hh2 => ?_)
      · (try dsimp only); refine HK.out _ ?_; (repeat (first | exact gg | refine Chg.drew ?_ | refine Chg.drewN ?_ _ | refine Chg.alloc ?_ _ | refine Chg.setCell ?_ (by simp) _))
      clear hK K hh1
      try simp only [Act.put, List.setIfInBounds_toArray, List.set_cons_zero, List.set_cons_succ]
      refine regTk 5 hh2 ?_
      refine regCall 6 (fun K hK => ?_)
      go_simp
      (try go_wp2_with fail)
      refine hK.out _ _ ?_ (fun hh3 => ?_)
      · (try dsimp only); refine HK.out _ ?_; (repeat (first | exact gg | refine Chg.drew ?_ | refine Chg.drewN ?_ _ | refine Chg.alloc ?_ _ | refine Chg.setCell ?_ (by simp) _))
      clear hK K hh2
      try simp only [Act.put, List.setIfInBounds_toArray, List.set_cons_zero, List.set_cons_succ]
      refine regTk 7 hh3 ?_
      refine regCall 8 (fun K hK => ?_)
      go_simp
      (try go_wp2_with fail)
      refine hK.out _ _ ?_ (fun hh4 => ?_)
      · (try dsimp only); refine HK.out _ ?_; (repeat (first | exact gg | refine Chg.drew ?_ | refine Chg.drewN ?_ _ | refine Chg.alloc ?_ _ | refine Chg.setCell ?_ (by simp) _))
      clear hK K hh3
      try simp only [Act.put, List.setIfInBounds_toArray, List.set_cons_zero, List.set_cons_succ]
      refine wpAnyH_done (by kernel_rfl) ?_ _
      have cset : Chg [g1] u6 (u6.setCell ⟨g1, 0, none⟩ (.int .i64 zz)) := (Chg.refl _ _).setCell (by simp) _
      have dR : w.heap.size ∉ [g1] := by have := QQ.out; have := su1.out; simp; omega
      have dV : u2.heap.size ∉ [g1] := by have := QQ.out; have := S2.out; simp; omega
      have R8 := hideIt (R.out.chg cset dR)
      have V8 := hideIt (V.out.chg cset dV)
      have X1 := hideIt ((O1.out.set_ n1 zz).reads)
      have X2 := hideIt ((O2.out.chg cset (by have := QQ.out; simp; omega)).reads)
      have X3 := hideIt ((O3.out.chg cset (by have := QQ.out; simp; omega)).reads)
      have HS8 := hideIt (HS.out.chg cset (by have := QQ.out; have := hlt.out; have := su1.out; simp; omega) (fun g hg => by have := QQ.out; have := hlt.out; have := su1.out; have := HG.out; simp at hg; subst hg; omega))
      have HC8 := hideIt (HC.out.trans' cset (by have := QQ.out; have := su1.out; omega))
      generalize u6.setCell ⟨g1, 0, none⟩ (.int .i64 zz) = w8 at cset R8 V8 X1 X2 X3 HS8 HC8 ⊢
      clear kf kl kc kz hh4 HK gg
      have kV0 : w8.cell? ⟨u2.heap.size, 0, none⟩ = some (.slice (some ⟨g1, 0, none⟩) S.length c1) := V8.out.cell 0
      have kV1 : w8.cell? ⟨u2.heap.size, 1, none⟩ = some (.slice (some ⟨g2, 0, none⟩) L.length c2) := V8.out.cell 1
      have kV2 : w8.cell? ⟨u2.heap.size, 2, none⟩ = some (.slice (some ⟨g3, 0, none⟩) Y.length c3) := V8.out.cell 2
      have fV := V8.out.frozen
      have lV := V8.out.lt
      have kR0 := R8.out.cell 0
      have kR1 := R8.out.cell 1
      have kR2 := R8.out.cell 2
      simp at kR0 kR1 kR2
      have fR := R8.out.frozen
      have lR := R8.out.lt
      go_wp2
      refine bodyPost_ret (by simp [*, results, Tryz.results105, go_sem]; try rfl) rfl ?_
      exact any_end (S := (S.set 0 zz)) (L := L) (Y := Y) HG.out hlt.out rfl R8.out X1.out X2.out X3.out (slice_off (by have := QQ.out; have := su1.out; omega)) (slice_off (by have := QQ.out; have := su1.out; omega)) (slice_off (by have := QQ.out; have := su1.out; omega)) (by first | exact ⟨n1, n1'⟩ | (rw [List.length_set]; exact ⟨n1, n1'⟩)) (set_bnd BS.out (by omega)) HS8.out HC8.out (by repeat (first | exact Chg.refl _ _ | refine Chg.drew ?_ | refine Chg.drewN ?_ _ | refine Chg.setCell ?_ (by simp) _))
  by_cases e2 : r = 2
  · subst e2
    obtain ⟨y0, h_⟩ : ∃ y, L[0]? = some y := ⟨_, List.getElem?_eq_getElem n2⟩
    have kc := O2.out.at h_
    clear h_
    have ip : 0 < L.length := n2
    have own1 := hideIt (OR.out.alloc (.cells #[.int .i64 y0] 2))
    have KB : Hid (w.heap.size + 1 ≤ u4.heap.size) := hideIt (by have := HC.out.size; have := lV; have := su1.out; have := S2.out; omega)
    have nlt : Hid (∀ q, (Value.slice (some ⟨g2, 0, none⟩) L.length c2).ownBlock = some q → q = g2) := hideIt (fun q e => (Option.some.inj e).symm)
    go_wp2
    refine wp_region_held_drew (S := (fun _ => True)) (by kernel_rfl) ?_ (fun hh0 => ?_)
    · (try dsimp only); try trivial
    refine regTk 0 hh0 ?_
    refine regTk 2 hh0 ?_
    refine regCall2 1 3 (fun K hK => ?_) (fun K hK => ?_)
    · go_simp
      (try go_wp2_with fail)
      refine hK.out _ _ ?_ (fun hh1 => ?_)
      · (try dsimp only); try trivial
      clear hK K hh0
      try simp only [Act.put, List.setIfInBounds_toArray, List.set_cons_zero, List.set_cons_succ]
      refine regCall 3 (fun K hK => ?_)
      go_simp
      (try go_wp2_with fail)
      refine hK.out _ _ ?_ (fun hh2 => ?_)
      · (try dsimp only); try trivial
      clear hK K hh1
      try simp only [Act.put, List.setIfInBounds_toArray, List.set_cons_zero, List.set_cons_succ]
      refine regTk 4 hh2 ?_
      refine regCall 5 (fun K hK => ?_)
      go_simp
      (try go_wp2_with fail)
      refine hK.out _ _ ?_ (fun hh3 => ?_)
      · (try dsimp only); try trivial
      clear hK K hh2
      try simp only [Act.put, List.setIfInBounds_toArray, List.set_cons_zero, List.set_cons_succ]
      refine regCall 6 (fun K hK => ?_)
      go_simp
      (try go_wp2_with fail)
      refine hK.out _ _ ?_ (fun hh4 => ?_)
      · (try dsimp only); try trivial
      clear hK K hh3
      try simp only [Act.put, List.setIfInBounds_toArray, List.set_cons_zero, List.set_cons_succ]
      refine regCall 7 (fun K hK => ?_)
      refine wp_append_own _ _ _ 39 rfl (w.heap.size + 1) 2 i0 (.int .i64 0) 1 8 Tryz.underlying39 hi hz0 hz1 hz2 rfl (by decide) (.slice (some ⟨g2, 0, none⟩) L.length c2) L.length (L.map (Value.int .i64)) (by rfl) (by have h := own1.out; exact h) ⟨u4.heap.size, 0, none⟩ 1 1 [.int .i64 y0] (by rfl) rfl ?c2 ?c3 ?c4 ?c5 ?c6 ?_
      case c2 =>
        intro j u hj
        match j, hj with
        | 0, hj => simp at hj; subst hj; simp [Addr.add]
      case c3 => intro u hu; simp at hu; subst hu; rfl
      case c4 => unfold maxLen; omega
      case c5 => omega
      case c6 => have := KB.out; simp; omega
      intro v' w4 hown3 hgrow hnil
      obtain ⟨A', n', rfl⟩ := own_slice hown3
      obtain ⟨_, _, bs', -, o2', -⟩ := own_oints (xs := L ++ [y0]) (by rw [List.length_append, List.map_append]; exact hown3)
      have c_ : Chg [g2] u4 w4 := Chg.grown (w := (u4.alloc (.cells #[.int .i64 y0] 2)).drew) (by repeat (first | exact Chg.refl _ _ | refine Chg.drew ?_ | refine Chg.alloc ?_ _)) hgrow (fun q e => .inl (by simp [nlt.out q e]))
      have NL := hideIt (fun k e => Nat.le_trans (Nat.le_succ _) (own_ge hown3 k e).1 : ∀ k, (Value.slice A' (L.length + 1) n').ownBlock = some k → w.heap.size ≤ k)
      have RR : Hid (RInts w4 (.slice A' (L.length + 1) n') (L ++ [y0])) := hideIt o2'.reads
      have dR : w.heap.size ∉ [g2] := by have := QQ.out; have := su1.out; simp; omega
      have dV : u2.heap.size ∉ [g2] := by have := QQ.out; have := S2.out; simp; omega
      replace R := hideIt (R.out.chg c_ dR)
      replace V := hideIt (V.out.chg c_ dV)
      have X1 := hideIt ((O1.out.chg c_ (by have := QQ.out; simp; omega)).reads)
      have X3 := hideIt ((O3.out.chg c_ (by have := QQ.out; simp; omega)).reads)
      replace HS := hideIt (HS.out.chg c_ (by have := QQ.out; have := hlt.out; have := su1.out; simp; omega) (fun g hg => by have := QQ.out; have := hlt.out; have := su1.out; have := HG.out; simp at hg; subst hg; omega))
      replace HC := hideIt (HC.out.trans' c_ (by have := QQ.out; have := su1.out; omega))
      clear c_ o2' hown3 hgrow hnil dR dV kV0 kV1 kV2 fV lV
      have kV0 : w4.cell? ⟨u2.heap.size, 0, none⟩ = some (.slice (some ⟨g1, 0, none⟩) S.length c1) := V.out.cell 0
      have kV1 : w4.cell? ⟨u2.heap.size, 1, none⟩ = some (.slice (some ⟨g2, 0, none⟩) L.length c2) := V.out.cell 1
      have kV2 : w4.cell? ⟨u2.heap.size, 2, none⟩ = some (.slice (some ⟨g3, 0, none⟩) Y.length c3) := V.out.cell 2
      have fV := V.out.frozen
      have lV := V.out.lt
      refine hK.out _ _ ?_ (fun hh5 => ?_)
      · (try dsimp only); try trivial
      clear hK K hh4
      try simp only [Act.put, List.setIfInBounds_toArray, List.set_cons_zero, List.set_cons_succ]
      refine regTk 8 hh5 ?_
      refine regCall 9 (fun K hK => ?_)
      go_simp
      (try go_wp2_with fail)
      refine hK.out _ _ ?_ (fun hh6 => ?_)
      · (try dsimp only); try trivial
      clear hK K hh5
      try simp only [Act.put, List.setIfInBounds_toArray, List.set_cons_zero, List.set_cons_succ]
      refine wpAnyH_done (by kernel_rfl) ?_ _
      have cset : Chg [u2.heap.size] w4 (w4.setCell ⟨u2.heap.size, 1, none⟩ (.slice A' (L.length + 1) n')) := (Chg.refl _ _).setCell (by simp) _
      have ni : ∀ o x, w4.cell? ⟨u2.heap.size, o, none⟩ ≠ some (.int .i64 x) := fun o x e => by
        rw [V.out.cell] at e
        match o, e with
        | 0, e => simp at e
        | 1, e => simp at e
        | 2, e => simp at e
        | n + 3, e => simp at e
      have V8 := hideIt (V.out.set_ 1 (.slice A' (L.length + 1) n'))
      have dR : w.heap.size ∉ [u2.heap.size] := by have := su1.out; have := S2.out; simp; omega
      have R8 := hideIt (R.out.chg cset dR)
      replace X1 := hideIt (X1.out.off cset ni)
      replace X3 := hideIt (X3.out.off cset ni)
      have X2 : Hid (RInts (w4.setCell ⟨u2.heap.size, 1, none⟩ (.slice A' (L.length + 1) n')) (.slice A' (L.length + 1) n') (L ++ [y0])) := hideIt (RR.out.off cset ni)
      have HS8 := hideIt (HS.out.chg cset (by have := hlt.out; have := su1.out; have := S2.out; simp; omega) (fun g hg => by have := hlt.out; have := su1.out; have := S2.out; have := HG.out; simp at hg; subst hg; omega))
      have HC8 := hideIt (HC.out.trans' cset (by have := su1.out; have := S2.out; omega))
      clear kV0 kV1 kV2 fV lV kc hh6 ni
      generalize w4.setCell ⟨u2.heap.size, 1, none⟩ (.slice A' (L.length + 1) n') = w8 at cset R8 V8 X1 X2 X3 HS8 HC8 ⊢
      have kV0 : w8.cell? ⟨u2.heap.size, 0, none⟩ = some (.slice (some ⟨g1, 0, none⟩) S.length c1) := V8.out.cell 0
      have kV1 : w8.cell? ⟨u2.heap.size, 1, none⟩ = some (.slice A' (L.length + 1) n') := V8.out.cell 1
      have kV2 : w8.cell? ⟨u2.heap.size, 2, none⟩ = some (.slice (some ⟨g3, 0, none⟩) Y.length c3) := V8.out.cell 2
      have fV := V8.out.frozen
      have lV := V8.out.lt
      have kR0 := R8.out.cell 0
      have kR1 := R8.out.cell 1
      have kR2 := R8.out.cell 2
      simp at kR0 kR1 kR2
      have fR := R8.out.frozen
      have lR := R8.out.lt
      go_wp2
      refine bodyPost_ret (by simp [*, results, Tryz.results105, go_sem]; try rfl) rfl ?_
      exact any_end (S := S) (L := L ++ [y0]) (Y := Y) HG.out hlt.out rfl R8.out X1.out X2.out X3.out (slice_off (by have := QQ.out; have := su1.out; omega)) (own_off NL.out) (slice_off (by have := QQ.out; have := su1.out; omega)) ⟨n1, n1'⟩ (fun x hx => by have := BS.out x hx; omega) HS8.out HC8.out (by repeat (first | exact Chg.refl _ _ | refine Chg.drew ?_ | refine Chg.drewN ?_ _ | refine Chg.setCell ?_ (by simp) _))
    · go_simp
      (try go_wp2_with fail)
      refine hK.out _ _ ?_ (fun hh1 => ?_)
      · (try dsimp only); try trivial
      clear hK K hh0
      try simp only [Act.put, List.setIfInBounds_toArray, List.set_cons_zero, List.set_cons_succ]
      refine regTk 4 hh1 ?_
      refine regCall2 1 5 (fun K hK => ?_) (fun K hK => ?_)
      · go_simp
        (try go_wp2_with fail)
        refine hK.out _ _ ?_ (fun hh2 => ?_)
        · (try dsimp only); try trivial
        clear hK K hh1
        try simp only [Act.put, List.setIfInBounds_toArray, List.set_cons_zero, List.set_cons_succ]
        refine regCall 5 (fun K hK => ?_)
        go_simp
        (try go_wp2_with fail)
        refine hK.out _ _ ?_ (fun hh3 => ?_)
        · (try dsimp only); try trivial
        clear hK K hh2
        try simp only [Act.put, List.setIfInBounds_toArray, List.set_cons_zero, List.set_cons_succ]
        refine regCall 6 (fun K hK => ?_)
        go_simp
        (try go_wp2_with fail)
        refine hK.out _ _ ?_ (fun hh4 => ?_)
        · (try dsimp only); try trivial
        clear hK K hh3
        try simp only [Act.put, List.setIfInBounds_toArray, List.set_cons_zero, List.set_cons_succ]
        refine regCall 7 (fun K hK => ?_)
        refine wp_append_own _ _ _ 39 rfl (w.heap.size + 1) 2 i0 (.int .i64 0) 1 8 Tryz.underlying39 hi hz0 hz1 hz2 rfl (by decide) (.slice (some ⟨g2, 0, none⟩) L.length c2) L.length (L.map (Value.int .i64)) (by rfl) (by have h := own1.out; exact h) ⟨u4.heap.size, 0, none⟩ 1 1 [.int .i64 y0] (by rfl) rfl ?c2 ?c3 ?c4 ?c5 ?c6 ?_
        case c2 =>
          intro j u hj
          match j, hj with
          | 0, hj => simp at hj; subst hj; simp [Addr.add]
        case c3 => intro u hu; simp at hu; subst hu; rfl
        case c4 => unfold maxLen; omega
        case c5 => omega
        case c6 => have := KB.out; simp; omega
        intro v' w4 hown3 hgrow hnil
        obtain ⟨A', n', rfl⟩ := own_slice hown3
        obtain ⟨_, _, bs', -, o2', -⟩ := own_oints (xs := L ++ [y0]) (by rw [List.length_append, List.map_append]; exact hown3)
        have c_ : Chg [g2] u4 w4 := Chg.grown (w := (u4.alloc (.cells #[.int .i64 y0] 2)).drew) (by repeat (first | exact Chg.refl _ _ | refine Chg.drew ?_ | refine Chg.alloc ?_ _)) hgrow (fun q e => .inl (by simp [nlt.out q e]))
        have NL := hideIt (fun k e => Nat.le_trans (Nat.le_succ _) (own_ge hown3 k e).1 : ∀ k, (Value.slice A' (L.length + 1) n').ownBlock = some k → w.heap.size ≤ k)
        have RR : Hid (RInts w4 (.slice A' (L.length + 1) n') (L ++ [y0])) := hideIt o2'.reads
        have dR : w.heap.size ∉ [g2] := by have := QQ.out; have := su1.out; simp; omega
        have dV : u2.heap.size ∉ [g2] := by have := QQ.out; have := S2.out; simp; omega
        replace R := hideIt (R.out.chg c_ dR)
        replace V := hideIt (V.out.chg c_ dV)
        have X1 := hideIt ((O1.out.chg c_ (by have := QQ.out; simp; omega)).reads)
        have X3 := hideIt ((O3.out.chg c_ (by have := QQ.out; simp; omega)).reads)
        replace HS := hideIt (HS.out.chg c_ (by have := QQ.out; have := hlt.out; have := su1.out; simp; omega) (fun g hg => by have := QQ.out; have := hlt.out; have := su1.out; have := HG.out; simp at hg; subst hg; omega))
        replace HC := hideIt (HC.out.trans' c_ (by have := QQ.out; have := su1.out; omega))
        clear c_ o2' hown3 hgrow hnil dR dV kV0 kV1 kV2 fV lV
        have kV0 : w4.cell? ⟨u2.heap.size, 0, none⟩ = some (.slice (some ⟨g1, 0, none⟩) S.length c1) := V.out.cell 0
        have kV1 : w4.cell? ⟨u2.heap.size, 1, none⟩ = some (.slice (some ⟨g2, 0, none⟩) L.length c2) := V.out.cell 1
        have kV2 : w4.cell? ⟨u2.heap.size, 2, none⟩ = some (.slice (some ⟨g3, 0, none⟩) Y.length c3) := V.out.cell 2
        have fV := V.out.frozen
        have lV := V.out.lt
        refine hK.out _ _ ?_ (fun hh5 => ?_)
        · (try dsimp only); try trivial
        clear hK K hh4
        try simp only [Act.put, List.setIfInBounds_toArray, List.set_cons_zero, List.set_cons_succ]
        refine regTk 8 hh5 ?_
        refine regCall 9 (fun K hK => ?_)
        go_simp
        (try go_wp2_with fail)
        refine hK.out _ _ ?_ (fun hh6 => ?_)
        · (try dsimp only); try trivial
        clear hK K hh5
        try simp only [Act.put, List.setIfInBounds_toArray, List.set_cons_zero, List.set_cons_succ]
        refine wpAnyH_done (by kernel_rfl) ?_ _
        have cset : Chg [u2.heap.size] w4 (w4.setCell ⟨u2.heap.size, 1, none⟩ (.slice A' (L.length + 1) n')) := (Chg.refl _ _).setCell (by simp) _
        have ni : ∀ o x, w4.cell? ⟨u2.heap.size, o, none⟩ ≠ some (.int .i64 x) := fun o x e => by
          rw [V.out.cell] at e
          match o, e with
          | 0, e => simp at e
          | 1, e => simp at e
          | 2, e => simp at e
          | n + 3, e => simp at e
        have V8 := hideIt (V.out.set_ 1 (.slice A' (L.length + 1) n'))
        have dR : w.heap.size ∉ [u2.heap.size] := by have := su1.out; have := S2.out; simp; omega
        have R8 := hideIt (R.out.chg cset dR)
        replace X1 := hideIt (X1.out.off cset ni)
        replace X3 := hideIt (X3.out.off cset ni)
        have X2 : Hid (RInts (w4.setCell ⟨u2.heap.size, 1, none⟩ (.slice A' (L.length + 1) n')) (.slice A' (L.length + 1) n') (L ++ [y0])) := hideIt (RR.out.off cset ni)
        have HS8 := hideIt (HS.out.chg cset (by have := hlt.out; have := su1.out; have := S2.out; simp; omega) (fun g hg => by have := hlt.out; have := su1.out; have := S2.out; have := HG.out; simp at hg; subst hg; omega))
        have HC8 := hideIt (HC.out.trans' cset (by have := su1.out; have := S2.out; omega))
        clear kV0 kV1 kV2 fV lV kc hh6 ni
        generalize w4.setCell ⟨u2.heap.size, 1, none⟩ (.slice A' (L.length + 1) n') = w8 at cset R8 V8 X1 X2 X3 HS8 HC8 ⊢
        have kV0 : w8.cell? ⟨u2.heap.size, 0, none⟩ = some (.slice (some ⟨g1, 0, none⟩) S.length c1) := V8.out.cell 0
        have kV1 : w8.cell? ⟨u2.heap.size, 1, none⟩ = some (.slice A' (L.length + 1) n') := V8.out.cell 1
        have kV2 : w8.cell? ⟨u2.heap.size, 2, none⟩ = some (.slice (some ⟨g3, 0, none⟩) Y.length c3) := V8.out.cell 2
        have fV := V8.out.frozen
        have lV := V8.out.lt
        have kR0 := R8.out.cell 0
        have kR1 := R8.out.cell 1
        have kR2 := R8.out.cell 2
        simp at kR0 kR1 kR2
        have fR := R8.out.frozen
        have lR := R8.out.lt
        go_wp2
        refine bodyPost_ret (by simp [*, results, Tryz.results105, go_sem]; try rfl) rfl ?_
        exact any_end (S := S) (L := L ++ [y0]) (Y := Y) HG.out hlt.out rfl R8.out X1.out X2.out X3.out (slice_off (by have := QQ.out; have := su1.out; omega)) (own_off NL.out) (slice_off (by have := QQ.out; have := su1.out; omega)) ⟨n1, n1'⟩ (fun x hx => by have := BS.out x hx; omega) HS8.out HC8.out (by repeat (first | exact Chg.refl _ _ | refine Chg.drew ?_ | refine Chg.drewN ?_ _ | refine Chg.setCell ?_ (by simp) _))
      · go_simp
        (try go_wp2_with fail)
        refine hK.out _ _ ?_ (fun hh2 => ?_)
        · (try dsimp only); try trivial
        clear hK K hh1
        try simp only [Act.put, List.setIfInBounds_toArray, List.set_cons_zero, List.set_cons_succ]
        refine regCall2 1 6 (fun K hK => ?_) (fun K hK => ?_)
        · go_simp
          (try go_wp2_with fail)
          refine hK.out _ _ ?_ (fun hh3 => ?_)
          · (try dsimp only); try trivial
          clear hK K hh2
          try simp only [Act.put, List.setIfInBounds_toArray, List.set_cons_zero, List.set_cons_succ]
          refine regCall 6 (fun K hK => ?_)
          go_simp
          (try go_wp2_with fail)
          refine hK.out _ _ ?_ (fun hh4 => ?_)
          · (try dsimp only); try trivial
          clear hK K hh3
          try simp only [Act.put, List.setIfInBounds_toArray, List.set_cons_zero, List.set_cons_succ]
          refine regCall 7 (fun K hK => ?_)
          refine wp_append_own _ _ _ 39 rfl (w.heap.size + 1) 2 i0 (.int .i64 0) 1 8 Tryz.underlying39 hi hz0 hz1 hz2 rfl (by decide) (.slice (some ⟨g2, 0, none⟩) L.length c2) L.length (L.map (Value.int .i64)) (by rfl) (by have h := own1.out; exact h) ⟨u4.heap.size, 0, none⟩ 1 1 [.int .i64 y0] (by rfl) rfl ?c2 ?c3 ?c4 ?c5 ?c6 ?_
          case c2 =>
            intro j u hj
            match j, hj with
            | 0, hj => simp at hj; subst hj; simp [Addr.add]
          case c3 => intro u hu; simp at hu; subst hu; rfl
          case c4 => unfold maxLen; omega
          case c5 => omega
          case c6 => have := KB.out; simp; omega
          intro v' w4 hown3 hgrow hnil
          obtain ⟨A', n', rfl⟩ := own_slice hown3
          obtain ⟨_, _, bs', -, o2', -⟩ := own_oints (xs := L ++ [y0]) (by rw [List.length_append, List.map_append]; exact hown3)
          have c_ : Chg [g2] u4 w4 := Chg.grown (w := (u4.alloc (.cells #[.int .i64 y0] 2)).drew) (by repeat (first | exact Chg.refl _ _ | refine Chg.drew ?_ | refine Chg.alloc ?_ _)) hgrow (fun q e => .inl (by simp [nlt.out q e]))
          have NL := hideIt (fun k e => Nat.le_trans (Nat.le_succ _) (own_ge hown3 k e).1 : ∀ k, (Value.slice A' (L.length + 1) n').ownBlock = some k → w.heap.size ≤ k)
          have RR : Hid (RInts w4 (.slice A' (L.length + 1) n') (L ++ [y0])) := hideIt o2'.reads
          have dR : w.heap.size ∉ [g2] := by have := QQ.out; have := su1.out; simp; omega
          have dV : u2.heap.size ∉ [g2] := by have := QQ.out; have := S2.out; simp; omega
          replace R := hideIt (R.out.chg c_ dR)
          replace V := hideIt (V.out.chg c_ dV)
          have X1 := hideIt ((O1.out.chg c_ (by have := QQ.out; simp; omega)).reads)
          have X3 := hideIt ((O3.out.chg c_ (by have := QQ.out; simp; omega)).reads)
          replace HS := hideIt (HS.out.chg c_ (by have := QQ.out; have := hlt.out; have := su1.out; simp; omega) (fun g hg => by have := QQ.out; have := hlt.out; have := su1.out; have := HG.out; simp at hg; subst hg; omega))
          replace HC := hideIt (HC.out.trans' c_ (by have := QQ.out; have := su1.out; omega))
          clear c_ o2' hown3 hgrow hnil dR dV kV0 kV1 kV2 fV lV
          have kV0 : w4.cell? ⟨u2.heap.size, 0, none⟩ = some (.slice (some ⟨g1, 0, none⟩) S.length c1) := V.out.cell 0
          have kV1 : w4.cell? ⟨u2.heap.size, 1, none⟩ = some (.slice (some ⟨g2, 0, none⟩) L.length c2) := V.out.cell 1
          have kV2 : w4.cell? ⟨u2.heap.size, 2, none⟩ = some (.slice (some ⟨g3, 0, none⟩) Y.length c3) := V.out.cell 2
          have fV := V.out.frozen
          have lV := V.out.lt
          refine hK.out _ _ ?_ (fun hh5 => ?_)
          · (try dsimp only); try trivial
          clear hK K hh4
          try simp only [Act.put, List.setIfInBounds_toArray, List.set_cons_zero, List.set_cons_succ]
          refine regTk 8 hh5 ?_
          refine regCall 9 (fun K hK => ?_)
          go_simp
          (try go_wp2_with fail)
          refine hK.out _ _ ?_ (fun hh6 => ?_)
          · (try dsimp only); try trivial
          clear hK K hh5
          try simp only [Act.put, List.setIfInBounds_toArray, List.set_cons_zero, List.set_cons_succ]
          refine wpAnyH_done (by kernel_rfl) ?_ _
          have cset : Chg [u2.heap.size] w4 (w4.setCell ⟨u2.heap.size, 1, none⟩ (.slice A' (L.length + 1) n')) := (Chg.refl _ _).setCell (by simp) _
          have ni : ∀ o x, w4.cell? ⟨u2.heap.size, o, none⟩ ≠ some (.int .i64 x) := fun o x e => by
            rw [V.out.cell] at e
            match o, e with
            | 0, e => simp at e
            | 1, e => simp at e
            | 2, e => simp at e
            | n + 3, e => simp at e
          have V8 := hideIt (V.out.set_ 1 (.slice A' (L.length + 1) n'))
          have dR : w.heap.size ∉ [u2.heap.size] := by have := su1.out; have := S2.out; simp; omega
          have R8 := hideIt (R.out.chg cset dR)
          replace X1 := hideIt (X1.out.off cset ni)
          replace X3 := hideIt (X3.out.off cset ni)
          have X2 : Hid (RInts (w4.setCell ⟨u2.heap.size, 1, none⟩ (.slice A' (L.length + 1) n')) (.slice A' (L.length + 1) n') (L ++ [y0])) := hideIt (RR.out.off cset ni)
          have HS8 := hideIt (HS.out.chg cset (by have := hlt.out; have := su1.out; have := S2.out; simp; omega) (fun g hg => by have := hlt.out; have := su1.out; have := S2.out; have := HG.out; simp at hg; subst hg; omega))
          have HC8 := hideIt (HC.out.trans' cset (by have := su1.out; have := S2.out; omega))
          clear kV0 kV1 kV2 fV lV kc hh6 ni
          generalize w4.setCell ⟨u2.heap.size, 1, none⟩ (.slice A' (L.length + 1) n') = w8 at cset R8 V8 X1 X2 X3 HS8 HC8 ⊢
          have kV0 : w8.cell? ⟨u2.heap.size, 0, none⟩ = some (.slice (some ⟨g1, 0, none⟩) S.length c1) := V8.out.cell 0
          have kV1 : w8.cell? ⟨u2.heap.size, 1, none⟩ = some (.slice A' (L.length + 1) n') := V8.out.cell 1
          have kV2 : w8.cell? ⟨u2.heap.size, 2, none⟩ = some (.slice (some ⟨g3, 0, none⟩) Y.length c3) := V8.out.cell 2
          have fV := V8.out.frozen
          have lV := V8.out.lt
          have kR0 := R8.out.cell 0
          have kR1 := R8.out.cell 1
          have kR2 := R8.out.cell 2
          simp at kR0 kR1 kR2
          have fR := R8.out.frozen
          have lR := R8.out.lt
          go_wp2
          refine bodyPost_ret (by simp [*, results, Tryz.results105, go_sem]; try rfl) rfl ?_
          exact any_end (S := S) (L := L ++ [y0]) (Y := Y) HG.out hlt.out rfl R8.out X1.out X2.out X3.out (slice_off (by have := QQ.out; have := su1.out; omega)) (own_off NL.out) (slice_off (by have := QQ.out; have := su1.out; omega)) ⟨n1, n1'⟩ (fun x hx => by have := BS.out x hx; omega) HS8.out HC8.out (by repeat (first | exact Chg.refl _ _ | refine Chg.drew ?_ | refine Chg.drewN ?_ _ | refine Chg.setCell ?_ (by simp) _))
        · go_simp
          (try go_wp2_with fail)
          refine hK.out _ _ ?_ (fun hh3 => ?_)
          · (try dsimp only); try trivial
          clear hK K hh2
          try simp only [Act.put, List.setIfInBounds_toArray, List.set_cons_zero, List.set_cons_succ]
          refine regCall 1 (fun K hK => ?_)
          go_simp
          (try go_wp2_with fail)
          refine hK.out _ _ ?_ (fun hh4 => ?_)
          · (try dsimp only); try trivial
          clear hK K hh3
          try simp only [Act.put, List.setIfInBounds_toArray, List.set_cons_zero, List.set_cons_succ]
          refine regCall 7 (fun K hK => ?_)
          refine wp_append_own _ _ _ 39 rfl (w.heap.size + 1) 2 i0 (.int .i64 0) 1 8 Tryz.underlying39 hi hz0 hz1 hz2 rfl (by decide) (.slice (some ⟨g2, 0, none⟩) L.length c2) L.length (L.map (Value.int .i64)) (by rfl) (by have h := own1.out; exact h) ⟨u4.heap.size, 0, none⟩ 1 1 [.int .i64 y0] (by rfl) rfl ?c2 ?c3 ?c4 ?c5 ?c6 ?_
          case c2 =>
            intro j u hj
            match j, hj with
            | 0, hj => simp at hj; subst hj; simp [Addr.add]
          case c3 => intro u hu; simp at hu; subst hu; rfl
          case c4 => unfold maxLen; omega
          case c5 => omega
          case c6 => have := KB.out; simp; omega
          intro v' w4 hown3 hgrow hnil
          obtain ⟨A', n', rfl⟩ := own_slice hown3
          obtain ⟨_, _, bs', -, o2', -⟩ := own_oints (xs := L ++ [y0]) (by rw [List.length_append, List.map_append]; exact hown3)
          have c_ : Chg [g2] u4 w4 := Chg.grown (w := (u4.alloc (.cells #[.int .i64 y0] 2)).drew) (by repeat (first | exact Chg.refl _ _ | refine Chg.drew ?_ | refine Chg.alloc ?_ _)) hgrow (fun q e => .inl (by simp [nlt.out q e]))
          have NL := hideIt (fun k e => Nat.le_trans (Nat.le_succ _) (own_ge hown3 k e).1 : ∀ k, (Value.slice A' (L.length + 1) n').ownBlock = some k → w.heap.size ≤ k)
          have RR : Hid (RInts w4 (.slice A' (L.length + 1) n') (L ++ [y0])) := hideIt o2'.reads
          have dR : w.heap.size ∉ [g2] := by have := QQ.out; have := su1.out; simp; omega
          have dV : u2.heap.size ∉ [g2] := by have := QQ.out; have := S2.out; simp; omega
          replace R := hideIt (R.out.chg c_ dR)
          replace V := hideIt (V.out.chg c_ dV)
          have X1 := hideIt ((O1.out.chg c_ (by have := QQ.out; simp; omega)).reads)
          have X3 := hideIt ((O3.out.chg c_ (by have := QQ.out; simp; omega)).reads)
          replace HS := hideIt (HS.out.chg c_ (by have := QQ.out; have := hlt.out; have := su1.out; simp; omega) (fun g hg => by have := QQ.out; have := hlt.out; have := su1.out; have := HG.out; simp at hg; subst hg; omega))
          replace HC := hideIt (HC.out.trans' c_ (by have := QQ.out; have := su1.out; omega))
          clear c_ o2' hown3 hgrow hnil dR dV kV0 kV1 kV2 fV lV
          have kV0 : w4.cell? ⟨u2.heap.size, 0, none⟩ = some (.slice (some ⟨g1, 0, none⟩) S.length c1) := V.out.cell 0
          have kV1 : w4.cell? ⟨u2.heap.size, 1, none⟩ = some (.slice (some ⟨g2, 0, none⟩) L.length c2) := V.out.cell 1
          have kV2 : w4.cell? ⟨u2.heap.size, 2, none⟩ = some (.slice (some ⟨g3, 0, none⟩) Y.length c3) := V.out.cell 2
          have fV := V.out.frozen
          have lV := V.out.lt
          refine hK.out _ _ ?_ (fun hh5 => ?_)
          · (try dsimp only); try trivial
          clear hK K hh4
          try simp only [Act.put, List.setIfInBounds_toArray, List.set_cons_zero, List.set_cons_succ]
          refine regTk 8 hh5 ?_
          refine regCall 9 (fun K hK => ?_)
          go_simp
          (try go_wp2_with fail)
          refine hK.out _ _ ?_ (fun hh6 => ?_)
          · (try dsimp only); try trivial
          clear hK K hh5
          try simp only [Act.put, List.setIfInBounds_toArray, List.set_cons_zero, List.set_cons_succ]
          refine wpAnyH_done (by kernel_rfl) ?_ _
          have cset : Chg [u2.heap.size] w4 (w4.setCell ⟨u2.heap.size, 1, none⟩ (.slice A' (L.length + 1) n')) := (Chg.refl _ _).setCell (by simp) _
          have ni : ∀ o x, w4.cell? ⟨u2.heap.size, o, none⟩ ≠ some (.int .i64 x) := fun o x e => by
            rw [V.out.cell] at e
            match o, e with
            | 0, e => simp at e
            | 1, e => simp at e
            | 2, e => simp at e
            | n + 3, e => simp at e
          have V8 := hideIt (V.out.set_ 1 (.slice A' (L.length + 1) n'))
          have dR : w.heap.size ∉ [u2.heap.size] := by have := su1.out; have := S2.out; simp; omega
          have R8 := hideIt (R.out.chg cset dR)
          replace X1 := hideIt (X1.out.off cset ni)
          replace X3 := hideIt (X3.out.off cset ni)
          have X2 : Hid (RInts (w4.setCell ⟨u2.heap.size, 1, none⟩ (.slice A' (L.length + 1) n')) (.slice A' (L.length + 1) n') (L ++ [y0])) := hideIt (RR.out.off cset ni)
          have HS8 := hideIt (HS.out.chg cset (by have := hlt.out; have := su1.out; have := S2.out; simp; omega) (fun g hg => by have := hlt.out; have := su1.out; have := S2.out; have := HG.out; simp at hg; subst hg; omega))
          have HC8 := hideIt (HC.out.trans' cset (by have := su1.out; have := S2.out; omega))
          clear kV0 kV1 kV2 fV lV kc hh6 ni
          generalize w4.setCell ⟨u2.heap.size, 1, none⟩ (.slice A' (L.length + 1) n') = w8 at cset R8 V8 X1 X2 X3 HS8 HC8 ⊢
          have kV0 : w8.cell? ⟨u2.heap.size, 0, none⟩ = some (.slice (some ⟨g1, 0, none⟩) S.length c1) := V8.out.cell 0
          have kV1 : w8.cell? ⟨u2.heap.size, 1, none⟩ = some (.slice A' (L.length + 1) n') := V8.out.cell 1
          have kV2 : w8.cell? ⟨u2.heap.size, 2, none⟩ = some (.slice (some ⟨g3, 0, none⟩) Y.length c3) := V8.out.cell 2
          have fV := V8.out.frozen
          have lV := V8.out.lt
          have kR0 := R8.out.cell 0
          have kR1 := R8.out.cell 1
          have kR2 := R8.out.cell 2
          simp at kR0 kR1 kR2
          have fR := R8.out.frozen
          have lR := R8.out.lt
          go_wp2
          refine bodyPost_ret (by simp [*, results, Tryz.results105, go_sem]; try rfl) rfl ?_
          exact any_end (S := S) (L := L ++ [y0]) (Y := Y) HG.out hlt.out rfl R8.out X1.out X2.out X3.out (slice_off (by have := QQ.out; have := su1.out; omega)) (own_off NL.out) (slice_off (by have := QQ.out; have := su1.out; omega)) ⟨n1, n1'⟩ (fun x hx => by have := BS.out x hx; omega) HS8.out HC8.out (by repeat (first | exact Chg.refl _ _ | refine Chg.drew ?_ | refine Chg.drewN ?_ _ | refine Chg.setCell ?_ (by simp) _))
  by_cases e3 : r = 3
  · subst e3
    have kR0 := R.out.cell 0
    have kR1 := R.out.cell 1
    have kR2 := R.out.cell 2
    simp at kR0 kR1 kR2
    have fR := R.out.frozen
    have lR := R.out.lt
    have neRV : ¬ w.heap.size = u2.heap.size := by have := su1.out; have := S2.out; omega
    have neVR : ¬ u2.heap.size = w.heap.size := by omega
    have TL := hideIt (O3.out.tail ny rfl)
    by_cases hc31 : c3 = 1
    · subst hc31
      obtain ⟨y9, rfl⟩ : ∃ y9, Y = [y9] := List.length_eq_one_iff.1 (by omega)
      go_wp2
      refine bodyPost_ret (by simp [*, results, Tryz.results105, go_sem]; try rfl) rfl ?_
      have cset : Chg [u2.heap.size] u4 (u4.setCell ⟨u2.heap.size, 2, none⟩ (.slice (some ⟨g3, 0, none⟩) 0 0)) := (Chg.refl _ _).setCell (by simp) _
      have ni : ∀ o x, u4.cell? ⟨u2.heap.size, o, none⟩ ≠ some (.int .i64 x) := fun o x e => by
        rw [V.out.cell] at e
        match o, e with
        | 0, e => simp at e
        | 1, e => simp at e
        | 2, e => simp at e
        | n + 3, e => simp at e
      exact any_end (S := S) (L := L) (Y := []) HG.out hlt.out rfl (R.out.chg cset (by simp; omega)) (O1.out.reads.off cset ni) (O2.out.reads.off cset ni) (RInts.off ⟨_, _, rfl, Nat.le_refl _, Nat.zero_le _, .inl rfl⟩ cset ni) (slice_off (by have := QQ.out; have := su1.out; omega)) (slice_off (by have := QQ.out; have := su1.out; omega)) (slice_off (by have := QQ.out; have := su1.out; omega)) ⟨n1, n1'⟩ (fun x hx => by have := BS.out x hx; omega) (HS.out.chg cset (by have := hlt.out; have := su1.out; have := S2.out; simp; omega) (fun g hg => by have := hlt.out; have := su1.out; have := S2.out; have := HG.out; simp at hg; subst hg; omega)) (HC.out.trans' cset (by have := su1.out; have := S2.out; omega)) (by repeat (first | exact Chg.refl _ _ | refine Chg.drew ?_ | refine Chg.drewN ?_ _ | refine Chg.setCell ?_ (by simp) _))
    have c31 : (c3 == 1) = false := by simp [hc31]
    go_wp2
    refine bodyPost_ret (by simp [*, results, Tryz.results105, go_sem]; try rfl) rfl ?_
    have cset : Chg [u2.heap.size] u4 (u4.setCell ⟨u2.heap.size, 2, none⟩ (.slice (some ⟨g3, 1, none⟩) (Y.length - 1) (c3 - 1))) := (Chg.refl _ _).setCell (by simp) _
    have ni : ∀ o x, u4.cell? ⟨u2.heap.size, o, none⟩ ≠ some (.int .i64 x) := fun o x e => by
      rw [V.out.cell] at e
      match o, e with
      | 0, e => simp at e
      | 1, e => simp at e
      | 2, e => simp at e
      | n + 3, e => simp at e
    exact any_end (S := S) (L := L) (Y := Y.tail) HG.out hlt.out rfl (R.out.chg cset (by simp; omega)) (O1.out.reads.off cset ni) (O2.out.reads.off cset ni) (TL.out.off cset ni) (slice_off (by have := QQ.out; have := su1.out; omega)) (slice_off (by have := QQ.out; have := su1.out; omega)) (slice_off (by have := QQ.out; have := su1.out; omega)) ⟨n1, n1'⟩ (fun x hx => by have := BS.out x hx; omega) (HS.out.chg cset (by have := hlt.out; have := su1.out; have := S2.out; simp; omega) (fun g hg => by have := hlt.out; have := su1.out; have := S2.out; have := HG.out; simp at hg; subst hg; omega)) (HC.out.trans' cset (by have := su1.out; have := S2.out; omega)) (by repeat (first | exact Chg.refl _ _ | refine Chg.drew ?_ | refine Chg.drewN ?_ _ | refine Chg.setCell ?_ (by simp) _))
    
  by_cases e4 : r = 4
  · subst e4
    obtain ⟨y0, h_⟩ : ∃ y, Y[k]? = some y := ⟨_, List.getElem?_eq_getElem kY⟩
    have yb := BY.out y0 (List.mem_of_getElem? h_)
    have kc := O3.out.at h_
    clear h_
    have kf := O3.out.fr (by omega)
    have kl := O3.out.lt g3 (by simp)
    have wz : IntKind.i64.wrap (y0 - 30) = y0 - 30 := Go.IntWalk.i64_in _ (by omega)
    have DB : Hid (u2.heap.size ∉ [g3]) := hideIt (by have := QQ.out; have := S2.out; simp; omega)
    have HK : Hid (∀ w', Chg [g3] u4 w' → w'.cell? ⟨u2.heap.size, 2, none⟩ = some (.slice (some ⟨g3, 0, none⟩) Y.length c3)) := hideIt (fun w' c => c.cell kV2 DB.out)
    have gg : Chg [g3] u4 u4 := Chg.refl _ _
    clear kV0 kV1 kV2 fV lV
    go_wp2
    refine wp_region_held_drew (S := (fun w' => w'.cell? ⟨u2.heap.size, 2, none⟩ = some (.slice (some ⟨g3, 0, none⟩) Y.length c3))) (by kernel_rfl) ?_ (fun hh0 => ?_)
    · (try dsimp only); refine HK.out _ ?_; (repeat (first | exact gg | refine Chg.drew ?_ | refine Chg.drewN ?_ _ | refine Chg.alloc ?_ _ | refine Chg.setCell ?_ (by simp) _))
    refine regTk 0 hh0 ?_
    refine regTk 1 hh0 ?_
    refine regTk 2 hh0 ?_
    refine regTk 3 hh0 ?_
    refine regTk 4 hh0 ?_
    refine regTk 5 hh0 ?_
    refine regTk 6 hh0 ?_
    refine regCall 7 (fun K hK => ?_)
    go_simp
    (try go_wp2_with fail)
    refine hK.out _ _ ?_ (fun hh1 => ?_)
    · (try dsimp only); refine HK.out _ ?_; (repeat (first | exact gg | refine Chg.drew ?_ | refine Chg.drewN ?_ _ | refine Chg.alloc ?_ _ | refine Chg.setCell ?_ (by simp) _))
    clear hK K hh0
    try simp only [Act.put, List.setIfInBounds_toArray, List.set_cons_zero, List.set_cons_succ]
    refine regTk 8 hh1 ?_
    refine regTk 9 hh1 ?_
    refine regCall 10 (fun K hK => ?_)
    go_simp
    (try go_wp2_with fail)
    refine hK.out _ _ ?_ (fun hh2 => ?_)
    · (try dsimp only); refine HK.out _ ?_; (repeat (first | exact gg | refine Chg.drew ?_ | refine Chg.drewN ?_ _ | refine Chg.alloc ?_ _ | refine Chg.setCell ?_ (by simp) _))
    clear hK K hh1
    try simp only [Act.put, List.setIfInBounds_toArray, List.set_cons_zero, List.set_cons_succ]
    refine wpAnyH_done (by kernel_rfl) ?_ _
    have cset : Chg [g3] u4 (u4.setCell ⟨g3, k, none⟩ (.int .i64 (y0 - 30))) := (Chg.refl _ _).setCell (by simp) _
    have dR : w.heap.size ∉ [g3] := by have := QQ.out; have := su1.out; simp; omega
    have R8 := hideIt (R.out.chg cset dR)
    have V8 := hideIt (V.out.chg cset DB.out)
    have X1 := hideIt ((O1.out.chg cset (by have := QQ.out; simp; omega)).reads)
    have X2 := hideIt ((O2.out.chg cset (by have := QQ.out; simp; omega)).reads)
    have X3 := hideIt ((O3.out.set_ kY (y0 - 30)).reads)
    have HS8 := hideIt (HS.out.chg cset (by have := QQ.out; have := hlt.out; have := su1.out; simp; omega) (fun g hg => by have := QQ.out; have := hlt.out; have := su1.out; have := HG.out; simp at hg; subst hg; omega))
    have HC8 := hideIt (HC.out.trans' cset (by have := QQ.out; have := su1.out; omega))
    generalize u4.setCell ⟨g3, k, none⟩ (.int .i64 (y0 - 30)) = w8 at cset R8 V8 X1 X2 X3 HS8 HC8 ⊢
    clear kf kl kc hh2 HK gg
    have kV0 : w8.cell? ⟨u2.heap.size, 0, none⟩ = some (.slice (some ⟨g1, 0, none⟩) S.length c1) := V8.out.cell 0
    have kV1 : w8.cell? ⟨u2.heap.size, 1, none⟩ = some (.slice (some ⟨g2, 0, none⟩) L.length c2) := V8.out.cell 1
    have kV2 : w8.cell? ⟨u2.heap.size, 2, none⟩ = some (.slice (some ⟨g3, 0, none⟩) Y.length c3) := V8.out.cell 2
    have fV := V8.out.frozen
    have lV := V8.out.lt
    have kR0 := R8.out.cell 0
    have kR1 := R8.out.cell 1
    have kR2 := R8.out.cell 2
    simp at kR0 kR1 kR2
    have fR := R8.out.frozen
    have lR := R8.out.lt
    go_wp2
    refine bodyPost_ret (by simp [*, results, Tryz.results105, go_sem]; try rfl) rfl ?_
    exact any_end (S := S) (L := L) (Y := Y.set k (y0 - 30)) HG.out hlt.out rfl R8.out X1.out X2.out X3.out (slice_off (by have := QQ.out; have := su1.out; omega)) (slice_off (by have := QQ.out; have := su1.out; omega)) (slice_off (by have := QQ.out; have := su1.out; omega)) ⟨n1, n1'⟩ (fun x hx => by have := BS.out x hx; omega) HS8.out HC8.out (by repeat (first | exact Chg.refl _ _ | refine Chg.drew ?_ | refine Chg.drewN ?_ _ | refine Chg.setCell ?_ (by simp) _))
  by_cases e5 : r = 5
  · subst e5
    obtain ⟨y0, h_⟩ : ∃ y, Y[k]? = some y := ⟨_, List.getElem?_eq_getElem kY⟩
    have yb := BY.out y0 (List.mem_of_getElem? h_)
    have kc := O3.out.at h_
    clear h_
    have kf := O3.out.fr (by omega)
    have kl := O3.out.lt g3 (by simp)
    have wz : IntKind.i64.wrap (y0 - 30) = y0 - 30 := Go.IntWalk.i64_in _ (by omega)
    have DB : Hid (u2.heap.size ∉ [g3]) := hideIt (by have := QQ.out; have := S2.out; simp; omega)
    have HK : Hid (∀ w', Chg [g3] u4 w' → w'.cell? ⟨u2.heap.size, 2, none⟩ = some (.slice (some ⟨g3, 0, none⟩) Y.length c3)) := hideIt (fun w' c => c.cell kV2 DB.out)
    have gg : Chg [g3] u4 u4 := Chg.refl _ _
    clear kV0 kV1 kV2 fV lV
    go_wp2
    refine wp_region_held_drew (S := (fun w' => w'.cell? ⟨u2.heap.size, 2, none⟩ = some (.slice (some ⟨g3, 0, none⟩) Y.length c3))) (by kernel_rfl) ?_ (fun hh0 => ?_)
    · (try dsimp only); refine HK.out _ ?_; (repeat (first | exact gg | refine Chg.drew ?_ | refine Chg.drewN ?_ _ | refine Chg.alloc ?_ _ | refine Chg.setCell ?_ (by simp) _))
    refine regTk 0 hh0 ?_
    refine regTk 1 hh0 ?_
    refine regTk 2 hh0 ?_
    refine regTk 3 hh0 ?_
    refine regTk 4 hh0 ?_
    refine regTk 5 hh0 ?_
    refine regTk 6 hh0 ?_
    refine regCall 7 (fun K hK => ?_)
    go_simp
    (try go_wp2_with fail)
    refine hK.out _ _ ?_ (fun hh1 => ?_)
    · (try dsimp only); refine HK.out _ ?_; (repeat (first | exact gg | refine Chg.drew ?_ | refine Chg.drewN ?_ _ | refine Chg.alloc ?_ _ | refine Chg.setCell ?_ (by simp) _))
    clear hK K hh0
    try simp only [Act.put, List.setIfInBounds_toArray, List.set_cons_zero, List.set_cons_succ]
    refine regTk 8 hh1 ?_
    refine regTk 9 hh1 ?_
    refine regCall 10 (fun K hK => ?_)
    go_simp
    (try go_wp2_with fail)
    refine hK.out _ _ ?_ (fun hh2 => ?_)
    · (try dsimp only); refine HK.out _ ?_; (repeat (first | exact gg | refine Chg.drew ?_ | refine Chg.drewN ?_ _ | refine Chg.alloc ?_ _ | refine Chg.setCell ?_ (by simp) _))
    clear hK K hh1
    try simp only [Act.put, List.setIfInBounds_toArray, List.set_cons_zero, List.set_cons_succ]
    refine wpAnyH_done (by kernel_rfl) ?_ _
    have cset : Chg [g3] u4 (u4.setCell ⟨g3, k, none⟩ (.int .i64 (y0 - 30))) := (Chg.refl _ _).setCell (by simp) _
    have dR : w.heap.size ∉ [g3] := by have := QQ.out; have := su1.out; simp; omega
    have R8 := hideIt (R.out.chg cset dR)
    have V8 := hideIt (V.out.chg cset DB.out)
    have X1 := hideIt ((O1.out.chg cset (by have := QQ.out; simp; omega)).reads)
    have X2 := hideIt ((O2.out.chg cset (by have := QQ.out; simp; omega)).reads)
    have X3 := hideIt ((O3.out.set_ kY (y0 - 30)).reads)
    have HS8 := hideIt (HS.out.chg cset (by have := QQ.out; have := hlt.out; have := su1.out; simp; omega) (fun g hg => by have := QQ.out; have := hlt.out; have := su1.out; have := HG.out; simp at hg; subst hg; omega))
    have HC8 := hideIt (HC.out.trans' cset (by have := QQ.out; have := su1.out; omega))
    generalize u4.setCell ⟨g3, k, none⟩ (.int .i64 (y0 - 30)) = w8 at cset R8 V8 X1 X2 X3 HS8 HC8 ⊢
    clear kf kl kc hh2 HK gg
    have kV0 : w8.cell? ⟨u2.heap.size, 0, none⟩ = some (.slice (some ⟨g1, 0, none⟩) S.length c1) := V8.out.cell 0
    have kV1 : w8.cell? ⟨u2.heap.size, 1, none⟩ = some (.slice (some ⟨g2, 0, none⟩) L.length c2) := V8.out.cell 1
    have kV2 : w8.cell? ⟨u2.heap.size, 2, none⟩ = some (.slice (some ⟨g3, 0, none⟩) Y.length c3) := V8.out.cell 2
    have fV := V8.out.frozen
    have lV := V8.out.lt
    have kR0 := R8.out.cell 0
    have kR1 := R8.out.cell 1
    have kR2 := R8.out.cell 2
    simp at kR0 kR1 kR2
    have fR := R8.out.frozen
    have lR := R8.out.lt
    go_wp2
    refine bodyPost_ret (by simp [*, results, Tryz.results105, go_sem]; try rfl) rfl ?_
    exact any_end (S := S) (L := L) (Y := Y.set k (y0 - 30)) HG.out hlt.out rfl R8.out X1.out X2.out X3.out (slice_off (by have := QQ.out; have := su1.out; omega)) (slice_off (by have := QQ.out; have := su1.out; omega)) (slice_off (by have := QQ.out; have := su1.out; omega)) ⟨n1, n1'⟩ (fun x hx => by have := BS.out x hx; omega) HS8.out HC8.out (by repeat (first | exact Chg.refl _ _ | refine Chg.drew ?_ | refine Chg.drewN ?_ _ | refine Chg.setCell ?_ (by simp) _))
  have kR0 := R.out.cell 0
  have kR1 := R.out.cell 1
  have kR2 := R.out.cell 2
  simp at kR0 kR1 kR2
  have fR := R.out.frozen
  have lR := R.out.lt
  go_wp2
  refine bodyPost_ret (by simp [*, results, Tryz.results105, go_sem]; try rfl) rfl ?_
  exact any_end HG.out hlt.out rfl R.out O1.out.reads O2.out.reads O3.out.reads (slice_off (by have := QQ.out; have := su1.out; omega)) (slice_off (by have := QQ.out; have := su1.out; omega)) (slice_off (by have := QQ.out; have := su1.out; omega)) ⟨n1, n1'⟩ (fun x hx => by have := BS.out x hx; omega) HS.out HC.out (by repeat (first | exact Chg.refl _ _ | refine Chg.drew ?_ | refine Chg.drewN ?_ _ | refine Chg.setCell ?_ (by simp) _))
theorem l02DrawAny_any {w0 w : World} {b : Nat} (h : SrcAt w0 w b) : Calls Tryz.prog 105 #[.pointer (some ⟨b, 0, none⟩)] w (AnyPost w0 w b) :=
  (l02DrawAny_sm h).mono fun _ _ ⟨a1, a2, a3, h1, t, h2, h3, h4, h5, h6, h7, _⟩ => ⟨a1, a2, a3, h1, t, h2, h3, h4, h5, h6, h7⟩
end Go.Proofs.YtlnpefiipdkafaaGreatDoor
