/-
  laws.other: three bytes ahead of a code.
-/
import Derived.Test.YtciflcnfimpfgaaDraw
import Derived.Laws.AppendOwn
import Derived.Laws.AppendOwnNone
import Derived.OwnWalk
namespace Go.Proofs.Ytciflcnfimpfgaa
open Go.RowKit

theorem info_u8 : (Try.prog.info? 5).map (fun i => (i.zero, i.size, i.bytes)) = some (some (.int .u8 0), 1, 1) := by kernel_rfl
theorem own_bytes {w : World} {base : Nat} {v : Value} {xs : List Int} (h : w.ownsRow base 5 1 v xs.length (xs.map (.int .u8 ·))) (hb : ∀ x ∈ xs, 0 ≤ x ∧ x ≤ 255) (hn : 1 ≤ xs.length) : RBytes w v xs := by
  obtain ⟨hl, ⟨_, h0⟩ | ⟨g, c, cur, rfl, hb', hg, h1, h2, h3, h4⟩⟩ := h
  · omega
  · have hB : Blk w g 5 cur := hg
    refine ⟨_, c, rfl, h1, h2, .inr ⟨g, 0, rfl, fun i x hx => ⟨[.int .u8 x], rfl, fun j u hu => ?_, rfl, hb x (List.mem_of_getElem? hx)⟩⟩⟩
    have hi : i < xs.length := (List.getElem?_eq_some_iff.1 hx).1
    match j, hu with
    | 0, hu =>
      simp at hu
      subst hu
      have h5 : (cur.toList.take (xs.length * 1))[i]? = some (.int .u8 x) := by rw [h4, List.getElem?_map, hx]; rfl
      rw [List.getElem?_take_of_lt (by omega)] at h5
      have := hB.cell i
      simpa [this] using h5
def OtherPost (w : World) (e : Ending) (w' : World) : Prop := ∃ (v' : Value) (ys : List Int), e = .returned v' ∧ RBytes w' v' ys ∧ Grows w w'
set_option maxHeartbeats 1000000 in
set_option maxRecDepth 100000 in
theorem other_any {v : Value} {xs : List Int} (w : World) (h : RBytes w v xs) (hn : xs.length ≤ 4096) :
    Calls Try.prog 14 #[v, .int .u8 3] w (OtherPost w) := by
  obtain ⟨i0, hi, hz0, hz1, hz2⟩ := info_parts info_u8
  obtain ⟨A, c, rfl, hle, hc, hx⟩ := RList.form h
  have hbs : ∀ x ∈ xs, 0 ≤ x ∧ x ≤ 255 := fun x hm => by
    obtain ⟨j, hj⟩ := List.getElem?_of_mem hm
    obtain ⟨_, _, _, _, _, _, hr⟩ := hx j x hj
    exact hr.2
  have HB := hideIt hbs
  have G1 : Hid (Grows w (w.alloc (.cells #[.int .u8 3, .int .u8 10, .int .u8 9] 5))) := hideIt ((Grows.refl w).alloc _)
  have own0 : Hid ((w.alloc (.cells #[.int .u8 3, .int .u8 10, .int .u8 9] 5)).ownsRow w.heap.size 5 1 (.slice (some ⟨w.heap.size, 0, none⟩) 3 3) 3 [.int .u8 3, .int .u8 10, .int .u8 9]) :=
    hideIt ⟨rfl, .inr ⟨w.heap.size, 3, _, rfl, Nat.le_refl _, Blk.new w _ _, Nat.le_refl _, by unfold maxLen; omega, rfl, rfl⟩⟩
  have hcells : ∀ (a : Addr), A = some a → ∀ (j : Nat) (u : Value), (xs.map (.int .u8 ·))[j]? = some u → w.cell? (a.add j) = some u := fun a ha j u hu => by
    rw [List.getElem?_map] at hu
    obtain ⟨x, hx1, rfl⟩ := Option.map_eq_some_iff.1 hu
    obtain ⟨b', off', e, cs, hl1, hcs, hr, _⟩ := hx j x hx1
    rw [ha] at e
    injection e with e
    subst e
    subst hr
    have e : (⟨b', off', none⟩ : Addr).add j = ⟨b', off' + j, none⟩ := by unfold Addr.add; split <;> simp_all
    rw [e]
    simpa using hcs 0 _ rfl
  have HC := hideIt hcells
  have hnone : A = none → xs = [] := fun ha => by
    rcases Nat.eq_zero_or_pos xs.length with h0 | h0
    · exact List.eq_nil_of_length_eq_zero h0
    · obtain ⟨_, _, e, _⟩ := hx 0 _ (List.getElem?_eq_getElem h0)
      rw [ha] at e
      cases e
  have HN := hideIt hnone
  clear hx hcells hnone hbs h
  have fin : ∀ (v' : Value) (w1 : World) (n : Nat) (ys : List Int), n = ys.length → (∀ x ∈ ys, 0 ≤ x ∧ x ≤ 255) → w1.ownsRow w.heap.size 5 1 v' (3 + n) (([3, 10, 9] ++ ys).map (.int .u8 ·)) → RBytes w1 v' ([3, 10, 9] ++ ys) := fun v' w1 n ys hn hy ho => by
    subst hn
    have e : ([3, 10, 9] ++ ys : List Int).length = 3 + ys.length := by simp; omega
    refine own_bytes (base := w.heap.size) (by rw [e]; exact ho) (fun x hx => ?_) (by simp)
    rcases List.mem_append.1 hx with h | h
    · simp at h; omega
    · exact hy x h
  have FIN := hideIt fin
  clear fin
  cases A with
  | none =>
    have hx0 : xs = [] := HN.out rfl
    subst hx0
    go_enter Try.func14, Try.ntmps14
    go_wp2_with (at_builtin; fail)
    go_ret
    exact ⟨_, [3, 10, 9], rfl, own_bytes (base := w.heap.size) own0.out (by simp) (by simp), G1.out⟩
  | some ad =>
    go_enter Try.func14, Try.ntmps14
    go_wp2_with (at_builtin; refine wpList_append_own _ rfl _ _ 22 rfl w.heap.size 5 i0 (.int .u8 0) 1 1 Try.underlying22 hi hz0 hz1 hz2 rfl (by decide) _ _ _ rfl own0.out ad xs.length c (xs.map (.int .u8 ·)) rfl ?c1 ?c2 ?c3 ?c4 ?c5 ?c6 ?_)
    case c1 => simp
    case c2 => exact fun j u hj => G1.out.keeps _ _ (HC.out ad rfl j u hj)
    case c3 => intro u hu; obtain ⟨x, -, rfl⟩ := List.mem_map.1 hu; rfl
    case c4 => unfold maxLen; omega
    case c5 => omega
    case c6 => exact G1.out.size
    intro v' w1 hown hgrow hnil
    have g1 := hideIt (G1.out.grown hgrow (fun k e => by injection e with e; exact Nat.le_of_eq e))
    have R := hideIt (FIN.out v' w1 _ xs rfl HB.out (by simpa using hown))
    clear hown hgrow hnil
    go_wp2
    go_ret
    exact ⟨_, _, rfl, R.out, g1.out⟩
end Go.Proofs.Ytciflcnfimpfgaa
