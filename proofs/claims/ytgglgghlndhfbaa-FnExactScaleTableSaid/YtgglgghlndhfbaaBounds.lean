/-
  Contracts of TableBounds, the reference's and the program's.
-/
import Derived.Test.YtgglgghlndhfbaaMinMax
namespace Go.Proofs.Ytgglgghlndhfbaa
open Go.RowKit

def bndV (t : TableD) : Int × Int × Int := if tabB t = true then (minL t.values, maxL t.values, 0) else (0, 0, 1)
theorem tabB_val {t : TableD} (h : tabB t = true) : 1 ≤ t.values.length := by
  simp only [tabB, Bool.and_eq_true, decide_eq_true_eq] at h
  have h1 := axB_len h.1.1.1
  have h2 := axB_len h.1.1.2
  have := Nat.mul_le_mul h1.1 h2.1
  omega
theorem Blk.drew_ {w : World} {g : Nat} {t : TypeId} {cs : Array Value} (h : Blk w g t cs) : Blk w.drew g t cs := h.grows (Grows.refl _).drew
theorem Blk.set' {w : World} {g : Nat} {t : TypeId} {cs ds : Array Value} {i : Nat} {u : Value} (h : Blk w g t cs) (e : ds = cs.setIfInBounds i u) : Blk (w.setCell ⟨g, i, none⟩ u) g t ds := by subst e; exact h.set_ i u
set_option maxHeartbeats 2000000 in
theorem iBounds_any {a b c : Value} {t : TableD} (w : World) (h : RTable w [a, b, c] t) :
    Calls Try.prog 22 #[.agg #[a, b, c]] w fun e w' => e = .returned (.tuple #[.agg #[.int .i64 (bndV t).1, .int .i64 (bndV t).2.1], .int .i64 (bndV t).2.2]) ∧ Grows w w' := by
  obtain ⟨A3, n3, rfl⟩ := h.open_.2.2.shape
  have hA := hideIt (h.open_.2.2.keep ((Grows.refl w).alloc (.cells #[a, b, .slice A3 t.values.length n3] 26)).keeps)
  have GA : Hid (Grows (w.alloc (.cells #[a, b, .slice A3 t.values.length n3] 26)) ((w.alloc (.cells #[a, b, .slice A3 t.values.length n3] 26)).alloc (.cells #[.int .i64 0, .int .i64 0] 45))) := hideIt ((Grows.refl (w.alloc (.cells #[a, b, .slice A3 t.values.length n3] 26))).alloc _)
  have hr := h
  clear h
  have g : Grows w w := Grows.refl w
  have G : Hid (Grows w ((w.alloc (.cells #[a, b, .slice A3 t.values.length n3] 26)).alloc (.cells #[.int .i64 0, .int .i64 0] 45))) := hideIt (((Grows.refl w).alloc _).alloc _)
  clear g
  have S : Hid (Blk ((w.alloc (.cells #[a, b, .slice A3 t.values.length n3] 26)).alloc (.cells #[.int .i64 0, .int .i64 0] 45)) (w.heap.size) 26 #[a, b, .slice A3 t.values.length n3]) := by
    have := (Blk.new w 26 #[a, b, .slice A3 t.values.length n3]).grows ((Grows.refl (w.alloc (.cells #[a, b, .slice A3 t.values.length n3] 26))).alloc (.cells #[.int .i64 0, .int .i64 0] 45))
    exact hideIt (by simpa using this)
  have R : Hid (Blk ((w.alloc (.cells #[a, b, .slice A3 t.values.length n3] 26)).alloc (.cells #[.int .i64 0, .int .i64 0] 45)) (w.heap.size + 1) 45 #[.int .i64 0, .int .i64 0]) := by
    have := (Blk.new (w.alloc (.cells #[a, b, .slice A3 t.values.length n3] 26)) 45 #[.int .i64 0, .int .i64 0]).grows (Grows.refl ((w.alloc (.cells #[a, b, .slice A3 t.values.length n3] 26)).alloc (.cells #[.int .i64 0, .int .i64 0] 45)))
    exact hideIt (by simpa using this)
  replace hr := hideIt (hr.keep G.out.keeps)
  go_enter Try.func22, Try.ntmps22
  go_wp2_with fail
  refine (iIsTable_any _ hr.out).mono ?_
  rintro e u1 ⟨rfl, g⟩
  replace G := hideIt (G.out.trans g)
  replace GA := hideIt (GA.out.trans g)
  replace hr := hideIt (hr.out.keep g.keeps)
  replace S := hideIt (S.out.grows g)
  replace R := hideIt (R.out.grows g)
  clear g
  have kS_0 : u1.cell? ⟨w.heap.size, 0, none⟩ = some (a) := S.out.cell 0
  have kS_1 : u1.cell? ⟨w.heap.size, 1, none⟩ = some (b) := S.out.cell 1
  have kS_2 : u1.cell? ⟨w.heap.size, 2, none⟩ = some (.slice A3 t.values.length n3) := S.out.cell 2
  have fS := S.out.frozen
  have lS : w.heap.size < u1.heap.size := S.out.lt
  have kR_0 : u1.cell? ⟨w.heap.size + 1, 0, none⟩ = some (.int .i64 0) := R.out.cell 0
  have kR_1 : u1.cell? ⟨w.heap.size + 1, 1, none⟩ = some (.int .i64 0) := R.out.cell 1
  have fR := R.out.frozen
  have lR : w.heap.size + 1 < u1.heap.size := R.out.lt
  cases h1 : tabB t
  · have E : Hid (bndV t = (0, 0, 1)) := by unfold Hid bndV; rw [h1]; rfl
    go_wp2
    refine bodyPost_ret (by simp [*, results, Try.results22, go_sem]; try rfl) rfl ?_
    exact ⟨by rw [E.out], (G.out.setCell (by simp <;> omega) _).setCell (by simp <;> omega) _⟩
  · have E : Hid (bndV t = (minL t.values, maxL t.values, 0)) := by unfold Hid bndV; rw [h1]; rfl
    have hv := hideIt (tabB_val h1)
    have gg := GA.out
    have K0 : ∀ w', Grows (w.alloc (.cells #[a, b, .slice A3 t.values.length n3] 26)) w' → w'.cell? ⟨w.heap.size, 2, none⟩ = some (.slice A3 t.values.length n3) ∧ Grows (w.alloc (.cells #[a, b, .slice A3 t.values.length n3] 26)) w' := fun w' G => ⟨(G.cells.1 _ _ (by simp)).trans (by simp), G⟩
    have HK := hideIt K0
    clear K0
    go_wp2_with fail
    go_region_held3 (fun w' => w'.cell? ⟨w.heap.size, 2, none⟩ = some (.slice A3 t.values.length n3) ∧ Grows (w.alloc (.cells #[a, b, .slice A3 t.values.length n3] 26)) w')
        ((refine HK.out _ ?_; (repeat (first | exact gg | refine Grows.drew ?_ | refine Grows.alloc ?_ _ | refine Grows.setCell ?_ (by simp <;> omega) _))))
        (first | (go_at_call 43; refine (min_any _ (hA.out.keep (Grows.keeps (by (repeat (first | exact gg | refine Grows.drew ?_ | refine Grows.alloc ?_ _ | refine Grows.setCell ?_ (by simp <;> omega) _))))) hv.out).mono ?_; rintro e wq ⟨rfl, rfl⟩) | (go_at_call 44; refine (max_any _ (hA.out.keep (Grows.keeps (by (repeat (first | exact gg | refine Grows.drew ?_ | refine Grows.alloc ?_ _ | refine Grows.setCell ?_ (by simp <;> omega) _))))) hv.out).mono ?_; rintro e wq ⟨rfl, rfl⟩))
    all_goals go_wp2
    all_goals refine bodyPost_ret (by simp [*, results, Try.results22, go_sem]; try rfl) rfl ?_
    all_goals exact ⟨by rw [E.out], by repeat (first | exact G.out | exact gg | refine Grows.drew ?_ | refine Grows.setCell ?_ (by simp <;> omega) _)⟩
end Go.Proofs.Ytgglgghlndhfbaa
