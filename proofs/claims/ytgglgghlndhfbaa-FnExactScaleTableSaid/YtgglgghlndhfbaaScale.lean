/-
  A table copied whole (l02Own), and ScaleTable.
-/
import Derived.Test.YtgglgghlndhfbaaClone
import Derived.Test.YtgglgghlndhfbaaBounds
import Derived.Test.YtgglgghlndhfbaaRound
import Derived.Test.YtgglgghlndhfbaaRet
import Derived.Test.YtgglgghlndhfbaaChg
import Derived.Deep.RegionHeld3
namespace Go.Proofs.Ytgglgghlndhfbaa
open Go.RowKit

theorem own_after {a cur w' : World} {bs : List Nat} (h : Own cur.heap.size w'.heap.size bs) (e : Grows a cur) : ∀ q ∈ bs, a.heap.size ≤ q := fun q hq => Nat.le_trans e.size (h.2 q hq).1
theorem own_three {lo hi : Nat} {b1 b2 b3 : List Nat} (n1 : b1.Nodup) (n2 : b2.Nodup) (n3 : b3.Nodup) (d12 : ∀ q ∈ b1, q ∉ b2) (d13 : ∀ q ∈ b1, q ∉ b3) (d23 : ∀ q ∈ b2, q ∉ b3)
    (r1 : ∀ q ∈ b1, lo ≤ q ∧ q < hi) (r2 : ∀ q ∈ b2, lo ≤ q ∧ q < hi) (r3 : ∀ q ∈ b3, lo ≤ q ∧ q < hi) : Own lo hi (b1 ++ b2 ++ b3) := by
  refine ⟨List.nodup_append.2 ⟨List.nodup_append.2 ⟨n1, n2, fun a ha b hb e => d12 a ha (e ▸ hb)⟩, n3, fun a ha b hb e => ?_⟩, fun q hq => ?_⟩
  · subst e
    rcases List.mem_append.1 ha with h | h
    · exact d13 a h hb
    · exact d23 a h hb
  · rcases List.mem_append.1 hq with h | h
    · rcases List.mem_append.1 h with h | h
      · exact r1 q h
      · exact r2 q h
    · exact r3 q h
theorem tabB_small {t : TableD} (h : tabB t = true) : (1 ≤ t.slews.length ∧ SmL t.slews) ∧ (1 ≤ t.loads.length ∧ SmL t.loads) ∧ (1 ≤ t.values.length ∧ SmL t.values) := by
  have hv := tabB_val h
  obtain ⟨q1, q2, q3, -⟩ := tabB_parts h
  have l1 := axB_len q1
  have l2 := axB_len q2
  have := Nat.mul_le_mul l1.2 l2.2
  unfold SmL
  omega
set_option maxHeartbeats 4000000 in
theorem l02Own_any {a b c : Value} {t : TableD} (w : World) (h : RTable w [a, b, c] t) (ht : tabB t = true) :
    Calls Try.prog 26 #[.agg #[a, b, c]] w fun e w' => ∃ (x y z : Value) (bs : List Nat), e = .returned (.agg #[x, y, z]) ∧ OTable w' [x, y, z] t bs ∧ Own w.heap.size w'.heap.size bs ∧ Grows w w' := by
  obtain ⟨⟨A1, n1, rfl⟩, ⟨A2, n2, rfl⟩, ⟨A3, n3, rfl⟩⟩ := h.shape
  obtain ⟨⟨s1, t1⟩, ⟨s2, t2⟩, ⟨s3, t3⟩⟩ := tabB_small ht
  have k0 := (Grows.refl w).alloc (.cells #[.slice A1 t.slews.length n1, .slice A2 t.loads.length n2, .slice A3 t.values.length n3] 26)
  have H1 := hideIt (h.open_.1.keep k0.keeps)
  have H2 := hideIt (h.open_.2.1.keep k0.keeps)
  have H3 := hideIt (h.open_.2.2.keep k0.keeps)
  have M := hideIt (And.intro (And.intro s1 t1) (And.intro (And.intro s2 t2) (And.intro s3 t3)))
  have gg : Grows (w.alloc (.cells #[.slice A1 t.slews.length n1, .slice A2 t.loads.length n2, .slice A3 t.values.length n3] 26)) ((w.alloc (.cells #[.slice A1 t.slews.length n1, .slice A2 t.loads.length n2, .slice A3 t.values.length n3] 26)).alloc (.cells #[.slice none 0 0, .slice none 0 0, .slice none 0 0] 26)) := (Grows.refl (w.alloc (.cells #[.slice A1 t.slews.length n1, .slice A2 t.loads.length n2, .slice A3 t.values.length n3] 26))).alloc _
  have K0 : ∀ w', Grows (w.alloc (.cells #[.slice A1 t.slews.length n1, .slice A2 t.loads.length n2, .slice A3 t.values.length n3] 26)) w' → w'.cell? ⟨w.heap.size, 0, none⟩ = some (.slice A1 t.slews.length n1) ∧ w'.cell? ⟨w.heap.size, 1, none⟩ = some (.slice A2 t.loads.length n2) ∧ w'.cell? ⟨w.heap.size, 2, none⟩ = some (.slice A3 t.values.length n3) ∧ Grows (w.alloc (.cells #[.slice A1 t.slews.length n1, .slice A2 t.loads.length n2, .slice A3 t.values.length n3] 26)) w' := fun w' G => ⟨(G.cells.1 _ _ (by simp)).trans (by simp), (G.cells.1 _ _ (by simp)).trans (by simp), (G.cells.1 _ _ (by simp)).trans (by simp), G⟩
  have HK := hideIt K0
  have G0 := hideIt k0
  clear K0 k0 h s1 t1 s2 t2 s3 t3
  go_enter Try.func26, Try.ntmps26
  go_wp2_with fail
  go_region_held3 (fun w' => w'.cell? ⟨w.heap.size, 0, none⟩ = some (.slice A1 t.slews.length n1) ∧ w'.cell? ⟨w.heap.size, 1, none⟩ = some (.slice A2 t.loads.length n2) ∧ w'.cell? ⟨w.heap.size, 2, none⟩ = some (.slice A3 t.values.length n3) ∧ Grows (w.alloc (.cells #[.slice A1 t.slews.length n1, .slice A2 t.loads.length n2, .slice A3 t.values.length n3] 26)) w')
    ((refine HK.out _ ?_; (repeat (first | exact gg | refine Grows.drew ?_ | refine Grows.alloc ?_ _ | refine Grows.setCell ?_ (by simp <;> omega) _))))
    (first | (go_at_call 45; refine (l02Ints_any _ (H1.out.keep (Grows.keeps (by (repeat (first | exact gg | refine Grows.drew ?_ | refine Grows.alloc ?_ _ | refine Grows.setCell ?_ (by simp <;> omega) _))))) M.out.1.1 M.out.1.2).mono ?_; rintro e wx1 ⟨B1, c1, b1, rfl, o1, ow1, g⟩; have E1 : Grows wx1 wx1 := Grows.refl _; have Da1 := own_after (a := (w.alloc (.cells #[.slice A1 t.slews.length n1, .slice A2 t.loads.length n2, .slice A3 t.values.length n3] 26))) ow1 (by (repeat (first | exact gg | refine Grows.drew ?_ | refine Grows.alloc ?_ _ | refine Grows.setCell ?_ (by simp <;> omega) _))); (try have D2_1 := own_after (a := wx2) ow1 (by (repeat (first | exact E2 | refine Grows.drew ?_)))); (try replace E2 : Grows wx2 wx1 := Grows.trans (by (repeat (first | exact E2 | refine Grows.drew ?_))) g); (try have D3_1 := own_after (a := wx3) ow1 (by (repeat (first | exact E3 | refine Grows.drew ?_)))); (try replace E3 : Grows wx3 wx1 := Grows.trans (by (repeat (first | exact E3 | refine Grows.drew ?_))) g); have z1 : w.heap.size + 1 < wx1.heap.size := (by have hs := Grows.size g; first | omega | (simp at hs; omega)); have x1 := (fun o => (Grows.cells g).1 (w.heap.size + 1) o (by first | omega | (simp; done) | (simp; omega))); have y1 := (fun o => (Grows.cells g).2 (w.heap.size + 1) o (by first | omega | (simp; done) | (simp; omega))); replace gg : Grows (w.alloc (.cells #[.slice A1 t.slews.length n1, .slice A2 t.loads.length n2, .slice A3 t.values.length n3] 26)) wx1 := Grows.trans (by (repeat (first | exact gg | refine Grows.drew ?_ | refine Grows.alloc ?_ _ | refine Grows.setCell ?_ (by simp <;> omega) _))) g) | (go_at_call 45; refine (l02Ints_any _ (H2.out.keep (Grows.keeps (by (repeat (first | exact gg | refine Grows.drew ?_ | refine Grows.alloc ?_ _ | refine Grows.setCell ?_ (by simp <;> omega) _))))) M.out.2.1.1 M.out.2.1.2).mono ?_; rintro e wx2 ⟨B2, c2, b2, rfl, o2, ow2, g⟩; have E2 : Grows wx2 wx2 := Grows.refl _; have Da2 := own_after (a := (w.alloc (.cells #[.slice A1 t.slews.length n1, .slice A2 t.loads.length n2, .slice A3 t.values.length n3] 26))) ow2 (by (repeat (first | exact gg | refine Grows.drew ?_ | refine Grows.alloc ?_ _ | refine Grows.setCell ?_ (by simp <;> omega) _))); (try have D1_2 := own_after (a := wx1) ow2 (by (repeat (first | exact E1 | refine Grows.drew ?_)))); (try replace E1 : Grows wx1 wx2 := Grows.trans (by (repeat (first | exact E1 | refine Grows.drew ?_))) g); (try have D3_2 := own_after (a := wx3) ow2 (by (repeat (first | exact E3 | refine Grows.drew ?_)))); (try replace E3 : Grows wx3 wx2 := Grows.trans (by (repeat (first | exact E3 | refine Grows.drew ?_))) g); have z2 : w.heap.size + 1 < wx2.heap.size := (by have hs := Grows.size g; first | omega | (simp at hs; omega)); have x2 := (fun o => (Grows.cells g).1 (w.heap.size + 1) o (by first | omega | (simp; done) | (simp; omega))); have y2 := (fun o => (Grows.cells g).2 (w.heap.size + 1) o (by first | omega | (simp; done) | (simp; omega))); replace gg : Grows (w.alloc (.cells #[.slice A1 t.slews.length n1, .slice A2 t.loads.length n2, .slice A3 t.values.length n3] 26)) wx2 := Grows.trans (by (repeat (first | exact gg | refine Grows.drew ?_ | refine Grows.alloc ?_ _ | refine Grows.setCell ?_ (by simp <;> omega) _))) g) | (go_at_call 45; refine (l02Ints_any _ (H3.out.keep (Grows.keeps (by (repeat (first | exact gg | refine Grows.drew ?_ | refine Grows.alloc ?_ _ | refine Grows.setCell ?_ (by simp <;> omega) _))))) M.out.2.2.1 M.out.2.2.2).mono ?_; rintro e wx3 ⟨B3, c3, b3, rfl, o3, ow3, g⟩; have E3 : Grows wx3 wx3 := Grows.refl _; have Da3 := own_after (a := (w.alloc (.cells #[.slice A1 t.slews.length n1, .slice A2 t.loads.length n2, .slice A3 t.values.length n3] 26))) ow3 (by (repeat (first | exact gg | refine Grows.drew ?_ | refine Grows.alloc ?_ _ | refine Grows.setCell ?_ (by simp <;> omega) _))); (try have D1_3 := own_after (a := wx1) ow3 (by (repeat (first | exact E1 | refine Grows.drew ?_)))); (try replace E1 : Grows wx1 wx3 := Grows.trans (by (repeat (first | exact E1 | refine Grows.drew ?_))) g); (try have D2_3 := own_after (a := wx2) ow3 (by (repeat (first | exact E2 | refine Grows.drew ?_)))); (try replace E2 : Grows wx2 wx3 := Grows.trans (by (repeat (first | exact E2 | refine Grows.drew ?_))) g); have z3 : w.heap.size + 1 < wx3.heap.size := (by have hs := Grows.size g; first | omega | (simp at hs; omega)); have x3 := (fun o => (Grows.cells g).1 (w.heap.size + 1) o (by first | omega | (simp; done) | (simp; omega))); have y3 := (fun o => (Grows.cells g).2 (w.heap.size + 1) o (by first | omega | (simp; done) | (simp; omega))); replace gg : Grows (w.alloc (.cells #[.slice A1 t.slews.length n1, .slice A2 t.loads.length n2, .slice A3 t.values.length n3] 26)) wx3 := Grows.trans (by (repeat (first | exact gg | refine Grows.drew ?_ | refine Grows.alloc ?_ _ | refine Grows.setCell ?_ (by simp <;> omega) _))) g))
  all_goals go_wp2
  refine bodyPost_ret (by simp [*, results, Try.results26, go_sem]; try rfl) rfl ?_
  have d1 : ∀ q ∈ b1, w.heap.size + 1 < q := fun q hq => by have := (ow1.2 q hq).1; simp at this; omega
  have d2 : ∀ q ∈ b2, w.heap.size + 1 < q := fun q hq => by have := (ow2.2 q hq).1; omega
  have d3 : ∀ q ∈ b3, w.heap.size + 1 < q := fun q hq => by have := (ow3.2 q hq).1; omega
  have l12 := Grows.size E1
  have l23 := Grows.size E2
  have l01 : wx1.heap.size ≤ wx2.heap.size := by have := Grows.size (show Grows wx1 wx2 by assumption); exact this
  refine ⟨_, _, _, _, rfl, ⟨_, _, _, b1, b2, b3, rfl, o1.same ?_, o2.same ?_, o3.same ?_, rfl⟩, ?_, ?_⟩
  · exact ((((SameOn.refl b1 wx1).grows o1.lt E1).set (fun q hq => by have := d1 q hq; simp; omega) _).set (fun q hq => by have := d1 q hq; simp; omega) _).set (fun q hq => by have := d1 q hq; simp; omega) _
  · exact ((((SameOn.refl b2 wx2).grows o2.lt E2).set (fun q hq => by have := d2 q hq; simp; omega) _).set (fun q hq => by have := d2 q hq; simp; omega) _).set (fun q hq => by have := d2 q hq; simp; omega) _
  · exact ((((SameOn.refl b3 wx3)).set (fun q hq => by have := d3 q hq; simp; omega) _).set (fun q hq => by have := d3 q hq; simp; omega) _).set (fun q hq => by have := d3 q hq; simp; omega) _
  · refine Own.mono (lo := w.heap.size) (hi := wx3.heap.size) ?_ (Nat.le_refl _) (by simp)
    exact ((ow1.mono (lo' := w.heap.size) (hi' := wx1.heap.size) (by simp; omega) (Nat.le_refl _)).append ow2 (by omega) l01).append ow3 (by omega) l23
  · exact (((G0.out.trans gg).setCell (by simp <;> omega) _).setCell (by simp <;> omega) _).setCell (by simp <;> omega) _
end Go.Proofs.Ytgglgghlndhfbaa
