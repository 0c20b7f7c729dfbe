/-
  Contract of the reference's count of the arcs of each kind.
-/
import Derived.Test.YtcaklodecejkhaaDoorCellM
import Derived.Test.YtcaklodecejkhaaDoorSArc
namespace Go.Proofs.YtcaklodecejkhaaDoor
open Go.RowKit

/-- how many of the first m arcs are of kind k -/
def kN (ar : List ArcD) (k : Int) (m : Nat) : Nat := ((ar.take m).filter fun a => decide (a.kind = k)).length
theorem kN_succ {ar : List ArcD} {k : Int} {m : Nat} {a : ArcD} (h : ar[m]? = some a) : kN ar k (m + 1) = kN ar k m + (if a.kind = k then 1 else 0) := by
  have e : ar.take (m + 1) = ar.take m ++ [a] := by
    rw [List.take_add_one, h]; rfl
  unfold kN
  rw [e, List.filter_append, List.length_append]
  by_cases hc : a.kind = k <;> simp [hc]
theorem kN_le (ar : List ArcD) (k : Int) (m : Nat) : kN ar k m ≤ m := by
  unfold kN
  exact Nat.le_trans (List.length_filter_le _ _) (by simp; omega)
theorem kN_pos {ar : List ArcD} {k : Int} : (0 < kN ar k ar.length) ↔ (ar.any fun a => decide (a.kind = k)) = true := by
  unfold kN
  rw [List.take_length, List.length_pos_iff, ne_eq, List.filter_eq_nil_iff, List.any_eq_true]
  constructor
  · intro h
    apply Classical.byContradiction
    intro hn
    exact h fun a ha hk => hn ⟨a, ha, hk⟩
  · rintro ⟨a, ha, hk⟩ h
    exact h a ha hk
def kCells (ar : List ArcD) (m : Nat) : Array Value := #[.int .i64 0, .int .i64 (kN ar 1 m : Int), .int .i64 (kN ar 2 m : Int), .int .i64 (kN ar 3 m : Int), .int .i64 (kN ar 4 m : Int), .int .i64 (kN ar 5 m : Int)]
def KindsPost (ar : List ArcD) (w : World) (e : Ending) (w' : World) : Prop :=
  ∃ B : Nat, e = .returned (.slice (some ⟨B, 0, none⟩) 6 6) ∧ Blk w' B 2 (kCells ar ar.length) ∧ Grows w w'
set_option maxHeartbeats 4000000 in
theorem l03Kinds_any {v0 v1 v2 v3 v4 v5 v6 : Value} {x : CellD} (w : World) (h : RCell w [v0, v1, v2, v3, v4, v5, v6] x) (ho : ∀ (j : Nat) (a : ArcD), x.arcs[j]? = some a → 1 ≤ a.kind ∧ a.kind ≤ 5) :
    Calls Tryd.prog 33 #[.agg #[v0, v1, v2, v3, v4, v5, v6]] w (KindsPost x.arcs w) := by
  obtain ⟨rfl, rfl, hp, ha, ht, rfl, rfl, -⟩ := h.parts
  have hl := RList.len ha
  obtain ⟨A, n0, rfl, -, -, hx⟩ := RList.form ha
  have S := hideIt (Blk.new w 32 #[.string x.name, .int .i64 x.kind, v2, .slice A x.arcs.length n0, v4, .int .i64 x.leak, .int .i64 x.energy])
  have G := hideIt ((Grows.refl w).alloc (.cells #[.string x.name, .int .i64 x.kind, v2, .slice A x.arcs.length n0, v4, .int .i64 x.leak, .int .i64 x.energy] 32))
  have HX := hideIt hx
  have HO := hideIt ho
  clear hx hp ha ht h ho
  have c3 : (w.alloc (.cells #[.string x.name, .int .i64 x.kind, v2, .slice A x.arcs.length n0, v4, .int .i64 x.leak, .int .i64 x.energy] 32)).cell? ⟨w.heap.size, 3, none⟩ = some (.slice A x.arcs.length n0) := S.out.cell 3
  have hmk : ∀ u : World, (Instr.makeSlice 24 (.int .i64 6) (.int .i64 6)).run Tryd.prog u = .ok (.slice (some ⟨u.heap.size, 0, none⟩) 6 6) (u.alloc (.cells #[.int .i64 0, .int .i64 0, .int .i64 0, .int .i64 0, .int .i64 0, .int .i64 0] 2)) := fun _ => by kernel_rfl
  go_enter Tryd.func33, Tryd.ntmps33
  go_wp2
  go_loopw [4] (fun i wr => ∃ k : Nat, k ≤ x.arcs.length ∧ i = .int .i64 (k : Int) ∧ Hid (Blk wr (w.heap.size + 1) 2 (kCells x.arcs k)) ∧ Grows (w.alloc (.cells #[.string x.name, .int .i64 x.kind, v2, .slice A x.arcs.length n0, v4, .int .i64 x.leak, .int .i64 x.energy] 32)) wr) (fun i _ => x.arcs.length - (intOf i).toNat)
  case atStart =>
    exact ⟨0, by omega, rfl, by
      have := Blk.new (w.alloc (.cells #[.string x.name, .int .i64 x.kind, v2, .slice A x.arcs.length n0, v4, .int .i64 x.leak, .int .i64 x.energy] 32)) 2 #[.int .i64 0, .int .i64 0, .int .i64 0, .int .i64 0, .int .i64 0, .int .i64 0]
      exact hideIt (by simpa [kCells, kN] using this), (Grows.refl _).alloc _⟩
  case round =>
    obtain ⟨k, hk, rfl, hB, hg⟩ := hrel
    have kS : wr.cell? ⟨w.heap.size, 3, none⟩ = some (.slice A x.arcs.length n0) := (S.out.grows hg).cell 3
    have kl : w.heap.size < wr.heap.size := (S.out.grows hg).lt
    have HG := hideIt hg
    clear hg c3 hmk
    by_cases hlt : k < x.arcs.length
    · obtain ⟨a, hp⟩ : ∃ a, x.arcs[k]? = some a := ⟨_, List.getElem?_eq_getElem hlt⟩
      obtain ⟨b, off, rfl, cs, hl1, hcs, hr⟩ := HX.out k a hp
      obtain ⟨d0, d1, d2, d3, d4, d5, rfl⟩ := list6 hl1
      obtain ⟨rfl, -⟩ := hr.parts
      have lift := (G.out.trans HG.out).keeps
      have k0 : wr.cell? ⟨b, off + k * 6, none⟩ = some (.int .i64 a.kind) := lift _ _ (by simpa using hcs 0 _ rfl)
      obtain ⟨o1, o5⟩ := HO.out k a hp
      have P1 := hideIt hp
      clear hcs hl1 hr hp lift
      obtain ⟨kind, src, dst, sense, delay, slew⟩ := a
      simp only at o1 o5 k0
      have cl1 := kN_le x.arcs 1 k
      have cl2 := kN_le x.arcs 2 k
      have cl3 := kN_le x.arcs 3 k
      have cl4 := kN_le x.arcs 4 k
      have cl5 := kN_le x.arcs 5 k
      have hl2 := hB.out.lt
      have hcases : kind = 1 ∨ kind = 2 ∨ kind = 3 ∨ kind = 4 ∨ kind = 5 := by omega
      rcases hcases with rfl | rfl | rfl | rfl | rfl
      · have e1 : wr.cell? ⟨w.heap.size + 1, 1, none⟩ = some (.int .i64 (kN x.arcs 1 k : Int)) := hB.out.cell 1
        have f1 : wr.frozen? ⟨w.heap.size + 1, 1, none⟩ = false := hB.out.frozen 1
        have B2 : Hid (Blk (wr.setCell ⟨w.heap.size + 1, 1, none⟩ (.int .i64 ((kN x.arcs 1 k : Int) + 1))) (w.heap.size + 1) 2 (kCells x.arcs (k + 1))) := hideIt (by
          have := hB.out.set_ 1 (.int .i64 ((kN x.arcs 1 k : Int) + 1))
          simpa [kCells, kN_succ P1.out] using this)
        have G2 := hideIt (HG.out.setCell (p := ⟨w.heap.size + 1, 1, none⟩) (by simp) (.int .i64 ((kN x.arcs 1 k : Int) + 1)))
        go_wp2
        go_roundw
        case rel => exact ⟨k + 1, by omega, by go_num, B2.out, G2.out⟩
        case measure => simp [intOf]; omega
      · have e2 : wr.cell? ⟨w.heap.size + 1, 2, none⟩ = some (.int .i64 (kN x.arcs 2 k : Int)) := hB.out.cell 2
        have f2 : wr.frozen? ⟨w.heap.size + 1, 2, none⟩ = false := hB.out.frozen 2
        have B2 : Hid (Blk (wr.setCell ⟨w.heap.size + 1, 2, none⟩ (.int .i64 ((kN x.arcs 2 k : Int) + 1))) (w.heap.size + 1) 2 (kCells x.arcs (k + 1))) := hideIt (by
          have := hB.out.set_ 2 (.int .i64 ((kN x.arcs 2 k : Int) + 1))
          simpa [kCells, kN_succ P1.out] using this)
        have G2 := hideIt (HG.out.setCell (p := ⟨w.heap.size + 1, 2, none⟩) (by simp) (.int .i64 ((kN x.arcs 2 k : Int) + 1)))
        go_wp2
        go_roundw
        case rel => exact ⟨k + 1, by omega, by go_num, B2.out, G2.out⟩
        case measure => simp [intOf]; omega
      · have e3 : wr.cell? ⟨w.heap.size + 1, 3, none⟩ = some (.int .i64 (kN x.arcs 3 k : Int)) := hB.out.cell 3
        have f3 : wr.frozen? ⟨w.heap.size + 1, 3, none⟩ = false := hB.out.frozen 3
        have B2 : Hid (Blk (wr.setCell ⟨w.heap.size + 1, 3, none⟩ (.int .i64 ((kN x.arcs 3 k : Int) + 1))) (w.heap.size + 1) 2 (kCells x.arcs (k + 1))) := hideIt (by
          have := hB.out.set_ 3 (.int .i64 ((kN x.arcs 3 k : Int) + 1))
          simpa [kCells, kN_succ P1.out] using this)
        have G2 := hideIt (HG.out.setCell (p := ⟨w.heap.size + 1, 3, none⟩) (by simp) (.int .i64 ((kN x.arcs 3 k : Int) + 1)))
        go_wp2
        go_roundw
        case rel => exact ⟨k + 1, by omega, by go_num, B2.out, G2.out⟩
        case measure => simp [intOf]; omega
      · have e4 : wr.cell? ⟨w.heap.size + 1, 4, none⟩ = some (.int .i64 (kN x.arcs 4 k : Int)) := hB.out.cell 4
        have f4 : wr.frozen? ⟨w.heap.size + 1, 4, none⟩ = false := hB.out.frozen 4
        have B2 : Hid (Blk (wr.setCell ⟨w.heap.size + 1, 4, none⟩ (.int .i64 ((kN x.arcs 4 k : Int) + 1))) (w.heap.size + 1) 2 (kCells x.arcs (k + 1))) := hideIt (by
          have := hB.out.set_ 4 (.int .i64 ((kN x.arcs 4 k : Int) + 1))
          simpa [kCells, kN_succ P1.out] using this)
        have G2 := hideIt (HG.out.setCell (p := ⟨w.heap.size + 1, 4, none⟩) (by simp) (.int .i64 ((kN x.arcs 4 k : Int) + 1)))
        go_wp2
        go_roundw
        case rel => exact ⟨k + 1, by omega, by go_num, B2.out, G2.out⟩
        case measure => simp [intOf]; omega
      · have e5 : wr.cell? ⟨w.heap.size + 1, 5, none⟩ = some (.int .i64 (kN x.arcs 5 k : Int)) := hB.out.cell 5
        have f5 : wr.frozen? ⟨w.heap.size + 1, 5, none⟩ = false := hB.out.frozen 5
        have B2 : Hid (Blk (wr.setCell ⟨w.heap.size + 1, 5, none⟩ (.int .i64 ((kN x.arcs 5 k : Int) + 1))) (w.heap.size + 1) 2 (kCells x.arcs (k + 1))) := hideIt (by
          have := hB.out.set_ 5 (.int .i64 ((kN x.arcs 5 k : Int) + 1))
          simpa [kCells, kN_succ P1.out] using this)
        have G2 := hideIt (HG.out.setCell (p := ⟨w.heap.size + 1, 5, none⟩) (by simp) (.int .i64 ((kN x.arcs 5 k : Int) + 1)))
        go_wp2
        go_roundw
        case rel => exact ⟨k + 1, by omega, by go_num, B2.out, G2.out⟩
        case measure => simp [intOf]; omega
    · obtain rfl : k = x.arcs.length := by omega
      go_wp2
      go_ret
      exact ⟨_, rfl, hB.out, G.out.trans HG.out⟩
end Go.Proofs.YtcaklodecejkhaaDoor
