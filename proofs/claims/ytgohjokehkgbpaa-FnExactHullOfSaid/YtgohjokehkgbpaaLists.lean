/-
  Copy, budget and equality of slices of structs.
-/
import Derived.Test.YtgohjokehkgbpaaList
import Derived.Test.YtgohjokehkgbpaaFind
import Derived.Test.YtgohjokehkgbpaaSpan
namespace Go.Proofs.Ytgohjokehkgbpaa
open Go.RowKit

theorem eq_of_getElem2? {α : Type} {xs ys : List α} (hl : xs.length = ys.length) (h : ∀ i, i < xs.length → xs[i]? = ys[i]?) : xs = ys := by
  apply List.ext_getElem?
  intro i
  rcases Nat.lt_or_ge i xs.length with hi | hi
  · exact h i hi
  · rw [List.getElem?_eq_none hi, List.getElem?_eq_none (by omega)]
abbrev SpanD := Int × Int
def RSpan (_ : World) (cs : List Value) (x : SpanD) : Prop := cs = [.int .i64 x.1, .int .i64 x.2]
def RSpans : World → Value → List SpanD → Prop := RList 2 RSpan
theorem RSpan.keep {w w' : World} {cs : List Value} {x : SpanD} (h : RSpan w cs x) (_ : Keeps w w') : RSpan w' cs x := h
theorem RSpans.keep {w w' : World} {v : Value} {xs : List SpanD} (h : RSpans w v xs) (k : Keeps w w') : RSpans w' v xs := RList.keep h k fun _ _ h => h
def OSpan (_ : World) (cs : List Value) (x : SpanD) (b : List Nat) : Prop := cs = [.int .i64 x.1, .int .i64 x.2] ∧ b = []
theorem OSpan.reads {w : World} {cs : List Value} {x : SpanD} {b : List Nat} (h : OSpan w cs x b) : RSpan w cs x := h.1
theorem OSpan.same {w w' : World} {cs : List Value} {x : SpanD} {b : List Nat} (h : OSpan w cs x b) (_ : SameOn b w w') : OSpan w' cs x b := h
theorem OSpan.lt {w : World} {cs : List Value} {x : SpanD} {b : List Nat} (h : OSpan w cs x b) : ∀ g ∈ b, g < w.heap.size := by rw [h.2]; intro g hg; cases hg
theorem OSpan.shape {w : World} {a b : Value} {x : SpanD} {bs : List Nat} (h : OSpan w [a, b] x bs) : a = .int .i64 x.1 ∧ b = .int .i64 x.2 := by
  have h1 := h.1
  injection h1 with e1 h1
  injection h1 with e2 h1
  exact ⟨e1, e2⟩
def SmSpan (_ : SpanD) : Prop := True
theorem toSpan_o {a b : Value} {x : SpanD} (w : World) (h : RSpan w [a, b] x) (_ : SmSpan x) :
    Calls Try.prog 63 #[.agg #[a, b]] w fun e w' => ∃ (y0 y1 : Value) (bs : List Nat), e = .returned (.agg #[y0, y1]) ∧ OSpan w' [y0, y1] x bs ∧ Own w.heap.size w'.heap.size bs ∧ Grows w w' := by
  unfold RSpan at h
  injection h with e1 h
  injection h with e2 h
  subst e1 e2
  exact (toSpan_any _ _ w).mono fun e w' ⟨he, g⟩ => ⟨_, _, [], he, ⟨rfl, rfl⟩, Own.nil, g⟩
theorem eqSpan_same {a b c d : Value} {x : SpanD} (w : World) (h : RSpan w [a, b] x) (k : RSpan w [c, d] x) :
    Calls Try.prog 24 #[.agg #[a, b], .agg #[c, d]] w fun e w' => e = .returned (.bool true) ∧ Grows w w' := by
  unfold RSpan at h k
  injection h with e1 h
  injection h with e2 h
  injection k with e3 k
  injection k with e4 k
  subst e1 e2 e3 e4
  exact (eqSpan_any _ _ _ _ w).mono fun e w' ⟨he, g⟩ => ⟨by rw [he]; simp, g⟩
theorem list2 {cs : List Value} (h : cs.length = 2) : ∃ c0 c1 : Value, cs = [c0, c1] := by
  match cs, h with
  | [a, b], _ => exact ⟨a, b, rfl⟩

def OSpans : World → Value → List SpanD → List Nat → Prop := OList 2 33 OSpan
def SmSpans (xs : List SpanD) : Prop := SmL xs ∧ ∀ x ∈ xs, SmSpan x
theorem OSpans.reads {w : World} {v : Value} {xs : List SpanD} {bs : List Nat} (h : OSpans w v xs bs) : RSpans w v xs := OList.reads h fun _ _ _ h => h.reads
theorem OSpans.same {w w' : World} {v : Value} {xs : List SpanD} {bs : List Nat} (h : OSpans w v xs bs) (g : SameOn bs w w') : OSpans w' v xs bs := OList.same h g fun _ _ _ h g => h.same g
theorem OSpans.lt {w : World} {v : Value} {xs : List SpanD} {bs : List Nat} (h : OSpans w v xs bs) : ∀ g ∈ bs, g < w.heap.size := OList.lt h fun _ _ _ h => h.lt
theorem info_Span : (Try.prog.info? 33).map (fun i => (i.zero, i.size)) = some (some (.agg #[.int .i64 0, .int .i64 0]), 2) := by kernel_rfl
theorem bytes_Span : ∀ i, Try.prog.info? 33 = some i → i.bytes ≤ 256 := by
  intro i hi
  have h : (Try.prog.info? 33).map (fun i => decide (i.bytes ≤ 256)) = some true := by kernel_rfl
  rw [hi] at h
  simpa using h
set_option maxHeartbeats 4000000 in
theorem toSpans_any {v : Value} {xs : List SpanD} (w : World) (h : RSpans w v xs) (hn : SmSpans xs) :
    Calls Try.prog 22 #[v] w fun e w' => ∃ (v' : Value) (bs : List Nat), e = .returned v' ∧ OSpans w' v' xs bs ∧ Own w.heap.size w'.heap.size bs ∧ Grows w w' := by
  obtain ⟨i0, hi, hzz⟩ := Option.map_eq_some_iff.1 info_Span
  simp only [Prod.mk.injEq] at hzz
  obtain ⟨hz0, hz1⟩ := hzz
  have hbt := bytes_Span i0 hi
  obtain ⟨hn1, hn2⟩ := hn
  unfold SmL at hn1
  have hmk : ∀ u : World, (Instr.makeSlice 36 (.int .i64 (xs.length : Int)) (.int .i64 (xs.length : Int))).run Try.prog u =
      .ok (.slice (some ⟨u.heap.size, 0, none⟩) xs.length xs.length) (u.alloc (.cells (madeCells #[.int .i64 0, .int .i64 0] (xs.length * 2)) 33)) := fun u => by
    have h := run_make (P := Try.prog) u 36 33 i0 (.agg #[.int .i64 0, .int .i64 0]) Try.underlying36 hi hz0 .i64 .i64 (xs.length : Int) (xs.length : Int) (by omega) (Int.le_refl _) (by have h5 := Nat.mul_le_mul hbt hn1; have e : (i0.bytes : Int) * (xs.length : Int) = ((i0.bytes * xs.length : Nat) : Int) := (Int.natCast_mul _ _).symm; rw [e]; omega) (by omega)
    simpa [hz1, Value.cells] using h
  obtain ⟨A, c, rfl, hle, hc, hx⟩ := h.form
  have HX := hideIt hx
  have HN := hideIt hn2
  clear hx hi hz0 hz1 hbt h hn2
  go_enter Try.func22, Try.ntmps22
  go_wp2
  go_loopw [4] (fun i wr => ∃ k : Nat, k ≤ xs.length ∧ i = .int .i64 k ∧ CopyG 2 33 OSpan w wr xs k) (fun i _ => xs.length - (intOf i).toNat)
  case atStart => exact ⟨0, Nat.zero_le _, rfl, CopyG.start _ (Blk.new _ _ _) (by simp [size_madeCells]) ((Grows.refl _).alloc _)⟩
  case round =>
    obtain ⟨k, hk, rfl, hco⟩ := hrel
    by_cases hlt : k < xs.length
    · obtain ⟨x, hx⟩ : ∃ x, xs[k]? = some x := ⟨_, List.getElem?_eq_getElem hlt⟩
      obtain ⟨b, off, rfl, cs, hl1, hcs, hr⟩ := HX.out k x hx
      obtain ⟨c0, c1, rfl⟩ := list2 hl1
      have HST := hideIt (fun u es b => CopyG.step (u := u) (es := es) (b := b) hco (fun _ _ _ _ _ h g => OSpan.same h g) hx)
      have SX := hideIt (HN.out x (List.mem_of_getElem? hx))
      obtain ⟨ds, bss, hb, hsz, -, -, hg, -⟩ := hco
      have HR : Hid (RSpan wr [c0, c1] x) := hideIt (hr.keep hg.keeps)
      have hs0 : wr.cell? ⟨b, off + k * 2, none⟩ = some c0 := by simpa [Nat.add_assoc] using hg.keeps _ _ (hcs 0 _ rfl)
      have hs1 : wr.cell? ⟨b, off + k * 2 + 1, none⟩ = some c1 := by simpa [Nat.add_assoc] using hg.keeps _ _ (hcs 1 _ rfl)
      have HB := hideIt hb
      have hmul : k * 2 + 2 ≤ ds.size := by rw [hsz]; omega
      clear hcs hl1 hx hr hb hsz hmk hg
      go_wp2_with fail
      refine (toSpan_o _ HR.out SX.out).mono ?_
      rintro e u ⟨y0, y1, bb, rfl, ho, ow, g⟩
      obtain ⟨rfl, rfl⟩ := ho.shape
      have st := hideIt (HST.out u _ bb g ho ow rfl)
      have hbu := HB.out.grows g
      have hf := hbu.frozen
      obtain ⟨o0, hd0⟩ : ∃ o, u.cell? ⟨w.heap.size, k * 2, none⟩ = some o := ⟨_, by rw [hbu.cell]; exact Array.getElem?_eq_getElem (by omega)⟩
      obtain ⟨o1, hd1⟩ : ∃ o, u.cell? ⟨w.heap.size, k * 2 + 1, none⟩ = some o := ⟨_, by rw [hbu.cell]; exact Array.getElem?_eq_getElem (by omega)⟩
      clear hbu ho ow g HST HB HR
      go_wp2
      go_roundw
      case rel => exact ⟨k + 1, by omega, by go_num, st.out⟩
      case measure => simp [intOf]; omega
    · have hk2 : k = xs.length := by omega
      subst hk2
      have H := hideIt hco
      clear hco hmk
      go_wp2
      go_ret
      obtain ⟨bs, h1, h2, h3⟩ := H.out.done (by unfold maxLen; omega)
      exact ⟨_, bs, rfl, h1, h2, h3⟩
set_option maxHeartbeats 4000000 in
theorem eqSpans_same {v1 v2 : Value} {xs : List SpanD} (w : World) (h1 : RSpans w v1 xs) (h2 : RSpans w v2 xs) :
    Calls Try.prog 25 #[v1, v2] w fun e w' => e = .returned (.bool true) ∧ Grows w w' := by
  have l1 := h1.len
  obtain ⟨A, c, rfl, hle, hc, hx⟩ := h1.form
  obtain ⟨A2, c2, rfl, hle2, hc2, hy⟩ := h2.form
  have HX := hideIt hx
  have HY := hideIt hy
  have hb : ((xs.length : Int) != (xs.length : Int)) = false := by simp
  clear hx hy h1 h2 hle hle2 hc hc2
  go_enter Try.func25, Try.ntmps25
  go_wp2
  go_loopw [5] (fun i wr => ∃ k : Nat, k ≤ xs.length ∧ i = .int .i64 k ∧ Grows w wr) (fun i _ => xs.length - (intOf i).toNat)
  case atStart => exact ⟨0, Nat.zero_le _, rfl, Grows.refl _⟩
  case round =>
    obtain ⟨k, hk, rfl, hg⟩ := hrel
    by_cases hlt : k < xs.length
    · obtain ⟨x, hx⟩ : ∃ x, xs[k]? = some x := ⟨_, List.getElem?_eq_getElem hlt⟩
      obtain ⟨b, off, rfl, cs, hl1, hcs, hr⟩ := HX.out k x hx
      obtain ⟨b2, off2, rfl, cs2, hl2, hcs2, hr2⟩ := HY.out k x hx
      obtain ⟨c0, c1, rfl⟩ := list2 hl1
      obtain ⟨d0, d1, rfl⟩ := list2 hl2
      have HR : Hid (RSpan wr [c0, c1] x) := hideIt (hr.keep hg.keeps)
      have HR2 : Hid (RSpan wr [d0, d1] x) := hideIt (hr2.keep hg.keeps)
      have zc0 : wr.cell? ⟨b, off + k * 2, none⟩ = some c0 := by simpa [Nat.add_assoc] using hg.keeps _ _ (hcs 0 _ rfl)
      have zc1 : wr.cell? ⟨b, off + k * 2 + 1, none⟩ = some c1 := by simpa [Nat.add_assoc] using hg.keeps _ _ (hcs 1 _ rfl)
      have zd0 : wr.cell? ⟨b2, off2 + k * 2, none⟩ = some d0 := by simpa [Nat.add_assoc] using hg.keeps _ _ (hcs2 0 _ rfl)
      have zd1 : wr.cell? ⟨b2, off2 + k * 2 + 1, none⟩ = some d1 := by simpa [Nat.add_assoc] using hg.keeps _ _ (hcs2 1 _ rfl)
      have K0 : ∀ w', Grows wr w' → w'.cell? ⟨b, off + k * 2, none⟩ = some c0 ∧ w'.cell? ⟨b, off + k * 2 + 1, none⟩ = some c1 ∧ w'.cell? ⟨b2, off2 + k * 2, none⟩ = some d0 ∧ w'.cell? ⟨b2, off2 + k * 2 + 1, none⟩ = some d1 ∧ Grows wr w' := fun w' G => ⟨G.keeps _ _ zc0, G.keeps _ _ zc1, G.keeps _ _ zd0, G.keeps _ _ zd1, G⟩
      have HK := hideIt K0
      have HG := hideIt hg
      have gg : Grows wr wr := Grows.refl _
      clear K0 hcs hcs2 hl1 hl2 hr hr2 hx hg
      go_wp2_with fail
      go_region_held3 (fun w' => w'.cell? ⟨b, off + k * 2, none⟩ = some c0 ∧ w'.cell? ⟨b, off + k * 2 + 1, none⟩ = some c1 ∧ w'.cell? ⟨b2, off2 + k * 2, none⟩ = some d0 ∧ w'.cell? ⟨b2, off2 + k * 2 + 1, none⟩ = some d1 ∧ Grows wr w')
        ((refine HK.out _ ?_; (repeat (first | exact gg | refine Grows.drew ?_ | refine Grows.alloc ?_ _ | refine Grows.setCell ?_ (by simp <;> omega) _))))
        (first | (go_at_call 24; refine (eqSpan_same _ (HR.out.keep (Grows.keeps (by (repeat (first | exact gg | refine Grows.drew ?_))))) (HR2.out.keep (Grows.keeps (by (repeat (first | exact gg | refine Grows.drew ?_)))))).mono ?_; rintro e wx ⟨rfl, g⟩; replace gg : Grows wr wx := Grows.trans (by (repeat (first | exact gg | refine Grows.drew ?_))) g))
      all_goals go_split_ands
      all_goals go_wp2
      all_goals go_roundw
      all_goals first
        | (case rel => exact ⟨k + 1, by omega, by go_num, HG.out.trans (by repeat (first | exact gg | refine Grows.drew ?_))⟩)
        | (simp [intOf]; omega)
    · have hk2 : k = xs.length := by omega
      subst hk2
      go_wp2
      go_ret
      exact ⟨rfl, hg⟩
set_option maxHeartbeats 400000 in
theorem szSpans_any {v : Value} {xs : List SpanD} (left : Int) (w : World) (h : RSpans w v xs) (h1 : 0 ≤ left) (h2 : left ≤ 1048576) :
    Calls Try.prog 20 #[v, .int .i64 left] w (SzPost (SmSpans xs) w) := by
  have hl := h.len
  obtain ⟨A, c, rfl, hle, hc, hx⟩ := h
  clear hx
  by_cases hlt : left - xs.length < 0
  · go_enter Try.func20, Try.ntmps20
    go_wp2
    go_ret
    exact ⟨_, rfl, by omega, by omega, fun h => absurd h (by omega), Grows.refl _⟩
  · go_enter Try.func20, Try.ntmps20
    go_wp2
    go_ret
    exact ⟨_, rfl, by omega, by omega, fun _ => ⟨by unfold SmL; omega, fun _ _ => trivial⟩, Grows.refl _⟩
end Go.Proofs.Ytgohjokehkgbpaa
