/-
  Contract of the reference's test of an arc.
-/
import Derived.Test.YtcaklodecejkhaaDoorCellM
import Derived.Test.YtcaklodecejkhaaDoorTabs
namespace Go.Proofs.YtcaklodecejkhaaDoor
open Go.RowKit

def clkAt (ps : List PinD) (i : Int) : Bool := match ps[i.toNat]? with | some p => p.clock | none => false
theorem clkAt_of {ps : List PinD} {i : Nat} {p : PinD} (h : ps[i]? = some p) : clkAt ps (i : Int) = p.clock := by simp [clkAt, h]
/-- an arc as the reference tests it; n: how many pins -/
def sArcB (ps : List PinD) (a : ArcD) : Bool :=
  inB a.src 0 ((ps.length : Int) - 1 - 1) && inB a.dst 0 ((ps.length : Int) - 1) &&
  (if a.kind = 1 then !clkAt ps a.src && decide (a.dst = (ps.length : Int) - 1) && inB a.sense 1 3 && tablesB a.delay true && tablesB a.slew true
   else if a.kind = 2 ∨ a.kind = 3 then clkAt ps a.src && decide (a.dst = (ps.length : Int) - 1) && decide (a.sense = 0) && tablesB a.delay true && tablesB a.slew true
   else if a.kind = 4 ∨ a.kind = 5 then clkAt ps a.src && decide (a.dst < (ps.length : Int) - 1) && !clkAt ps a.dst && decide (a.sense = 0) && tablesB a.delay false && decide (a.slew.length = 0)
   else false)
set_option maxHeartbeats 4000000 in
theorem l03Arc_any {v0 v1 v2 v3 v4 v5 v6 u0 u1 u2 u3 u4 u5 : Value} {x : CellD} {a : ArcD} (w : World) (h : RCell w [v0, v1, v2, v3, v4, v5, v6] x) (ha : RArc w [u0, u1, u2, u3, u4, u5] a) (hn : 2 ≤ x.pins.length) (hn5 : x.pins.length ≤ 5) :
    Calls Tryd.prog 32 #[.agg #[v0, v1, v2, v3, v4, v5, v6], .agg #[u0, u1, u2, u3, u4, u5]] w fun e w' => e = .returned (.bool (sArcB x.pins a)) ∧ Grows w w' := by
  obtain ⟨rfl, rfl, hp, -, -, rfl, rfl, -⟩ := h.parts
  obtain ⟨rfl, rfl, rfl, rfl, hd, hs⟩ := ha.parts
  obtain ⟨kind, src, dst, sense, delay, slew⟩ := a
  obtain ⟨A, n0, rfl, -, -, hx⟩ := RList.form hp
  obtain ⟨D, nd, rfl⟩ : ∃ (D : Option Addr) (nd : Nat), u4 = .slice D delay.length nd := by obtain ⟨D, c, e, -⟩ := RList.form hd; exact ⟨D, c, e⟩
  obtain ⟨E, ne, rfl⟩ : ∃ (E : Option Addr) (ne : Nat), u5 = .slice E slew.length ne := by obtain ⟨D, c, e, -⟩ := RList.form hs; exact ⟨D, c, e⟩
  have sl := RList.len hs
  have g0 := ((Grows.refl w).alloc (.cells #[.string x.name, .int .i64 x.kind, .slice A x.pins.length n0, v3, v4, .int .i64 x.leak, .int .i64 x.energy] 32)).alloc (.cells #[.int .i64 kind, .int .i64 src, .int .i64 dst, .int .i64 sense, .slice D delay.length nd, .slice E slew.length ne] 55)
  have G := hideIt g0
  have HD := hideIt (hd.keep g0.keeps)
  have HS := hideIt (hs.keep g0.keeps)
  have B1 := hideIt ((Blk.new w 32 #[.string x.name, .int .i64 x.kind, .slice A x.pins.length n0, v3, v4, .int .i64 x.leak, .int .i64 x.energy]).grows ((Grows.refl _).alloc (.cells #[.int .i64 kind, .int .i64 src, .int .i64 dst, .int .i64 sense, .slice D delay.length nd, .slice E slew.length ne] 55)))
  have B2 : Hid (Blk ((w.alloc (.cells #[.string x.name, .int .i64 x.kind, .slice A x.pins.length n0, v3, v4, .int .i64 x.leak, .int .i64 x.energy] 32)).alloc (.cells #[.int .i64 kind, .int .i64 src, .int .i64 dst, .int .i64 sense, .slice D delay.length nd, .slice E slew.length ne] 55)) (w.heap.size + 1) 55 #[.int .i64 kind, .int .i64 src, .int .i64 dst, .int .i64 sense, .slice D delay.length nd, .slice E slew.length ne]) := by
    have := Blk.new (w.alloc (.cells #[.string x.name, .int .i64 x.kind, .slice A x.pins.length n0, v3, v4, .int .i64 x.leak, .int .i64 x.energy] 32)) 55 #[.int .i64 kind, .int .i64 src, .int .i64 dst, .int .i64 sense, .slice D delay.length nd, .slice E slew.length ne]
    exact hideIt (by simpa using this)
  have HX := hideIt hx
  clear hx hp hd hs h ha g0
  simp only at *
  cases q1 : inB src 0 ((x.pins.length : Int) - 1 - 1)
  · have EP := hideIt (show sArcB x.pins ⟨kind, src, dst, sense, delay, slew⟩ = false by unfold sArcB; simp only [q1, Bool.false_and])
    have Q1 := hideIt q1
    clear q1
    go_enter Tryd.func32, Tryd.ntmps32
    go_wp2_with (go_at_call 31; refine (l01In_any _ _ _ _).mono ?_; rintro e w' ⟨rfl, rfl⟩; rw [Q1.out])
    go_ret
    exact ⟨ret_bool EP.out.symm, G.out⟩
  cases q2 : inB dst 0 ((x.pins.length : Int) - 1)
  · have EP := hideIt (show sArcB x.pins ⟨kind, src, dst, sense, delay, slew⟩ = false by unfold sArcB; simp only [q1, q2, Bool.false_and, Bool.and_false])
    have Q1 := hideIt q1
    have Q2 := hideIt q2
    clear q1 q2
    go_enter Tryd.func32, Tryd.ntmps32
    go_wp2_with (go_at_call 31; refine (l01In_any _ _ _ _).mono ?_; rintro e w' ⟨rfl, rfl⟩; first | rw [Q1.out] | rw [Q2.out])
    go_ret
    exact ⟨ret_bool EP.out.symm, G.out⟩
  obtain ⟨b1, b2⟩ := inB_true q1
  obtain ⟨b3, b4⟩ := inB_true q2
  obtain ⟨i, rfl⟩ : ∃ i : Nat, src = (i : Int) := ⟨src.toNat, by omega⟩
  obtain ⟨p, hp⟩ : ∃ p, x.pins[i]? = some p := ⟨_, List.getElem?_eq_getElem (by omega)⟩
  have ci := clkAt_of hp
  obtain ⟨b, off, rfl, cs, hl1, hcs, hrp⟩ := HX.out i p hp
  obtain ⟨d0, d1, d2, d3, rfl⟩ := list4 hl1
  obtain ⟨rfl, rfl, rfl, rfl, -⟩ := hrp.parts
  have kp : w.cell? ⟨b, off + i * 4 + 3, none⟩ = some (.bool p.clock) := by simpa [Nat.add_assoc] using hcs 3 _ rfl
  have lb := cell_lt kp
  simp at lb
  have KP := G.out.keeps _ _ kp
  clear kp hcs hl1 hrp hp
  generalize hpc : p.clock = pc at *
  clear hpc p
  by_cases k1 : kind = 1
  · subst k1
    cases pc
    rotate_left
    · skip
      have EP := hideIt (show sArcB x.pins ⟨1, (i : Int), dst, sense, delay, slew⟩ = false by unfold sArcB; simp [q1, q2, ci])
      have Q1 := hideIt q1
      have Q2 := hideIt q2
      clear q1 q2 ci
      go_enter Tryd.func32, Tryd.ntmps32
      go_wp2_with (go_at_call 31; refine (l01In_any _ _ _ _).mono ?_; rintro e w' ⟨rfl, rfl⟩; first | rw [Q1.out] | rw [Q2.out])
      try go_wp2
      go_ret
      exact ⟨ret_bool EP.out.symm, G.out⟩
    · skip
      by_cases e0 : dst = (x.pins.length : Int) - 1
      rotate_left
      · skip
        have EP := hideIt (show sArcB x.pins ⟨1, (i : Int), dst, sense, delay, slew⟩ = false by unfold sArcB; simp [q1, q2, ci, e0])
        have Q1 := hideIt q1
        have Q2 := hideIt q2
        clear q1 q2 ci
        go_enter Tryd.func32, Tryd.ntmps32
        go_wp2_with (go_at_call 31; refine (l01In_any _ _ _ _).mono ?_; rintro e w' ⟨rfl, rfl⟩; first | rw [Q1.out] | rw [Q2.out])
        try go_wp2
        go_ret
        exact ⟨ret_bool EP.out.symm, G.out⟩
      · skip
        subst e0
        cases f3 : inB sense 1 3
        · skip
          have EP := hideIt (show sArcB x.pins ⟨1, (i : Int), (x.pins.length : Int) - 1, sense, delay, slew⟩ = false by unfold sArcB; simp [q1, q2, ci, f3])
          have Q1 := hideIt q1
          have Q2 := hideIt q2
          have Q3 := hideIt f3
          clear q1 q2 ci f3
          go_enter Tryd.func32, Tryd.ntmps32
          go_wp2_with (go_at_call 31; refine (l01In_any _ _ _ _).mono ?_; rintro e w' ⟨rfl, rfl⟩; first | rw [Q1.out] | rw [Q2.out] | rw [Q3.out])
          try go_wp2
          go_ret
          exact ⟨ret_bool EP.out.symm, G.out⟩
        · skip
          cases f4 : tablesB delay true
          · skip
            have EP := hideIt (show sArcB x.pins ⟨1, (i : Int), (x.pins.length : Int) - 1, sense, delay, slew⟩ = false by unfold sArcB; simp [q1, q2, ci, f3, f4])
            have Q1 := hideIt q1
            have Q2 := hideIt q2
            have Q3 := hideIt f3
            have Hf4 := hideIt f4
            clear q1 q2 ci f3 f4
            go_enter Tryd.func32, Tryd.ntmps32
            go_wp2_with (go_at_call 31; refine (l01In_any _ _ _ _).mono ?_; rintro e w' ⟨rfl, rfl⟩; first | rw [Q1.out] | rw [Q2.out] | rw [Q3.out])
            refine (l03Tables_any true _ HD.out).mono ?_
            rintro e w1 ⟨rfl, g1⟩
            rw [Hf4.out]
            have G1 := hideIt (G.out.trans g1)
            replace B2 := hideIt (B2.out.grows g1)
            have HS1 := hideIt (HS.out.keep g1.keeps)
            have kd0 : w1.cell? ⟨w.heap.size + 1, 5, none⟩ = some (.slice E slew.length ne) := B2.out.cell 5
            have kl0 := B2.out.lt
            clear g1
            try go_wp2
            go_ret
            exact ⟨ret_bool EP.out.symm, G1.out⟩
          · skip
            cases f5 : tablesB slew true
            · skip
              have EP := hideIt (show sArcB x.pins ⟨1, (i : Int), (x.pins.length : Int) - 1, sense, delay, slew⟩ = false by unfold sArcB; simp [q1, q2, ci, f3, f4, f5])
              have Q1 := hideIt q1
              have Q2 := hideIt q2
              have Q3 := hideIt f3
              have Hf4 := hideIt f4
              have Hf5 := hideIt f5
              clear q1 q2 ci f3 f4 f5
              go_enter Tryd.func32, Tryd.ntmps32
              go_wp2_with (go_at_call 31; refine (l01In_any _ _ _ _).mono ?_; rintro e w' ⟨rfl, rfl⟩; first | rw [Q1.out] | rw [Q2.out] | rw [Q3.out])
              refine (l03Tables_any true _ HD.out).mono ?_
              rintro e w1 ⟨rfl, g1⟩
              rw [Hf4.out]
              have G1 := hideIt (G.out.trans g1)
              replace B2 := hideIt (B2.out.grows g1)
              have HS1 := hideIt (HS.out.keep g1.keeps)
              have kd0 : w1.cell? ⟨w.heap.size + 1, 5, none⟩ = some (.slice E slew.length ne) := B2.out.cell 5
              have kl0 := B2.out.lt
              clear g1
              go_wp2_with fail
              refine (l03Tables_any true _ HS1.out).mono ?_
              rintro e w2 ⟨rfl, g2⟩
              rw [Hf5.out]
              replace G1 := hideIt (G1.out.trans g2)
              replace B2 := hideIt (B2.out.grows g2)
              have kd1 : w2.cell? ⟨w.heap.size + 1, 5, none⟩ = some (.slice E slew.length ne) := B2.out.cell 5
              have kl1 := B2.out.lt
              clear g2
              try go_wp2
              go_ret
              exact ⟨ret_bool EP.out.symm, G1.out⟩
            · skip
              have EP := hideIt (show sArcB x.pins ⟨1, (i : Int), (x.pins.length : Int) - 1, sense, delay, slew⟩ = true by unfold sArcB; simp [q1, q2, ci, f3, f4, f5])
              have Q1 := hideIt q1
              have Q2 := hideIt q2
              have Q3 := hideIt f3
              have Hf4 := hideIt f4
              have Hf5 := hideIt f5
              clear q1 q2 ci f3 f4 f5
              go_enter Tryd.func32, Tryd.ntmps32
              go_wp2_with (go_at_call 31; refine (l01In_any _ _ _ _).mono ?_; rintro e w' ⟨rfl, rfl⟩; first | rw [Q1.out] | rw [Q2.out] | rw [Q3.out])
              refine (l03Tables_any true _ HD.out).mono ?_
              rintro e w1 ⟨rfl, g1⟩
              rw [Hf4.out]
              have G1 := hideIt (G.out.trans g1)
              replace B2 := hideIt (B2.out.grows g1)
              have HS1 := hideIt (HS.out.keep g1.keeps)
              have kd0 : w1.cell? ⟨w.heap.size + 1, 5, none⟩ = some (.slice E slew.length ne) := B2.out.cell 5
              have kl0 := B2.out.lt
              clear g1
              go_wp2_with fail
              refine (l03Tables_any true _ HS1.out).mono ?_
              rintro e w2 ⟨rfl, g2⟩
              rw [Hf5.out]
              replace G1 := hideIt (G1.out.trans g2)
              replace B2 := hideIt (B2.out.grows g2)
              have kd1 : w2.cell? ⟨w.heap.size + 1, 5, none⟩ = some (.slice E slew.length ne) := B2.out.cell 5
              have kl1 := B2.out.lt
              clear g2
              try go_wp2
              go_ret
              exact ⟨ret_bool EP.out.symm, G1.out⟩
  by_cases k2 : kind = 2
  · subst k2
    cases pc
    · skip
      have EP := hideIt (show sArcB x.pins ⟨2, (i : Int), dst, sense, delay, slew⟩ = false by unfold sArcB; simp [q1, q2, ci])
      have Q1 := hideIt q1
      have Q2 := hideIt q2
      clear q1 q2 ci
      go_enter Tryd.func32, Tryd.ntmps32
      go_wp2_with (go_at_call 31; refine (l01In_any _ _ _ _).mono ?_; rintro e w' ⟨rfl, rfl⟩; first | rw [Q1.out] | rw [Q2.out])
      try go_wp2
      go_ret
      exact ⟨ret_bool EP.out.symm, G.out⟩
    · skip
      by_cases e0 : dst = (x.pins.length : Int) - 1
      rotate_left
      · skip
        have EP := hideIt (show sArcB x.pins ⟨2, (i : Int), dst, sense, delay, slew⟩ = false by unfold sArcB; simp [q1, q2, ci, e0])
        have Q1 := hideIt q1
        have Q2 := hideIt q2
        clear q1 q2 ci
        go_enter Tryd.func32, Tryd.ntmps32
        go_wp2_with (go_at_call 31; refine (l01In_any _ _ _ _).mono ?_; rintro e w' ⟨rfl, rfl⟩; first | rw [Q1.out] | rw [Q2.out])
        try go_wp2
        go_ret
        exact ⟨ret_bool EP.out.symm, G.out⟩
      · skip
        subst e0
        by_cases z0 : sense = 0
        rotate_left
        · skip
          have EP := hideIt (show sArcB x.pins ⟨2, (i : Int), (x.pins.length : Int) - 1, sense, delay, slew⟩ = false by unfold sArcB; simp [q1, q2, ci, z0])
          have Q1 := hideIt q1
          have Q2 := hideIt q2
          clear q1 q2 ci
          go_enter Tryd.func32, Tryd.ntmps32
          go_wp2_with (go_at_call 31; refine (l01In_any _ _ _ _).mono ?_; rintro e w' ⟨rfl, rfl⟩; first | rw [Q1.out] | rw [Q2.out])
          try go_wp2
          go_ret
          exact ⟨ret_bool EP.out.symm, G.out⟩
        · skip
          subst z0
          cases f4 : tablesB delay true
          · skip
            have EP := hideIt (show sArcB x.pins ⟨2, (i : Int), (x.pins.length : Int) - 1, 0, delay, slew⟩ = false by unfold sArcB; simp [q1, q2, ci, f4])
            have Q1 := hideIt q1
            have Q2 := hideIt q2
            have Hf4 := hideIt f4
            clear q1 q2 ci f4
            go_enter Tryd.func32, Tryd.ntmps32
            go_wp2_with (go_at_call 31; refine (l01In_any _ _ _ _).mono ?_; rintro e w' ⟨rfl, rfl⟩; first | rw [Q1.out] | rw [Q2.out])
            refine (l03Tables_any true _ HD.out).mono ?_
            rintro e w1 ⟨rfl, g1⟩
            rw [Hf4.out]
            have G1 := hideIt (G.out.trans g1)
            replace B2 := hideIt (B2.out.grows g1)
            have HS1 := hideIt (HS.out.keep g1.keeps)
            have kd0 : w1.cell? ⟨w.heap.size + 1, 5, none⟩ = some (.slice E slew.length ne) := B2.out.cell 5
            have kl0 := B2.out.lt
            clear g1
            try go_wp2
            go_ret
            exact ⟨ret_bool EP.out.symm, G1.out⟩
          · skip
            cases f5 : tablesB slew true
            · skip
              have EP := hideIt (show sArcB x.pins ⟨2, (i : Int), (x.pins.length : Int) - 1, 0, delay, slew⟩ = false by unfold sArcB; simp [q1, q2, ci, f4, f5])
              have Q1 := hideIt q1
              have Q2 := hideIt q2
              have Hf4 := hideIt f4
              have Hf5 := hideIt f5
              clear q1 q2 ci f4 f5
              go_enter Tryd.func32, Tryd.ntmps32
              go_wp2_with (go_at_call 31; refine (l01In_any _ _ _ _).mono ?_; rintro e w' ⟨rfl, rfl⟩; first | rw [Q1.out] | rw [Q2.out])
              refine (l03Tables_any true _ HD.out).mono ?_
              rintro e w1 ⟨rfl, g1⟩
              rw [Hf4.out]
              have G1 := hideIt (G.out.trans g1)
              replace B2 := hideIt (B2.out.grows g1)
              have HS1 := hideIt (HS.out.keep g1.keeps)
              have kd0 : w1.cell? ⟨w.heap.size + 1, 5, none⟩ = some (.slice E slew.length ne) := B2.out.cell 5
              have kl0 := B2.out.lt
              clear g1
              go_wp2_with fail
              refine (l03Tables_any true _ HS1.out).mono ?_
              rintro e w2 ⟨rfl, g2⟩
              rw [Hf5.out]
              replace G1 := hideIt (G1.out.trans g2)
              replace B2 := hideIt (B2.out.grows g2)
              have kd1 : w2.cell? ⟨w.heap.size + 1, 5, none⟩ = some (.slice E slew.length ne) := B2.out.cell 5
              have kl1 := B2.out.lt
              clear g2
              try go_wp2
              go_ret
              exact ⟨ret_bool EP.out.symm, G1.out⟩
            · skip
              have EP := hideIt (show sArcB x.pins ⟨2, (i : Int), (x.pins.length : Int) - 1, 0, delay, slew⟩ = true by unfold sArcB; simp [q1, q2, ci, f4, f5])
              have Q1 := hideIt q1
              have Q2 := hideIt q2
              have Hf4 := hideIt f4
              have Hf5 := hideIt f5
              clear q1 q2 ci f4 f5
              go_enter Tryd.func32, Tryd.ntmps32
              go_wp2_with (go_at_call 31; refine (l01In_any _ _ _ _).mono ?_; rintro e w' ⟨rfl, rfl⟩; first | rw [Q1.out] | rw [Q2.out])
              refine (l03Tables_any true _ HD.out).mono ?_
              rintro e w1 ⟨rfl, g1⟩
              rw [Hf4.out]
              have G1 := hideIt (G.out.trans g1)
              replace B2 := hideIt (B2.out.grows g1)
              have HS1 := hideIt (HS.out.keep g1.keeps)
              have kd0 : w1.cell? ⟨w.heap.size + 1, 5, none⟩ = some (.slice E slew.length ne) := B2.out.cell 5
              have kl0 := B2.out.lt
              clear g1
              go_wp2_with fail
              refine (l03Tables_any true _ HS1.out).mono ?_
              rintro e w2 ⟨rfl, g2⟩
              rw [Hf5.out]
              replace G1 := hideIt (G1.out.trans g2)
              replace B2 := hideIt (B2.out.grows g2)
              have kd1 : w2.cell? ⟨w.heap.size + 1, 5, none⟩ = some (.slice E slew.length ne) := B2.out.cell 5
              have kl1 := B2.out.lt
              clear g2
              try go_wp2
              go_ret
              exact ⟨ret_bool EP.out.symm, G1.out⟩
  by_cases k3 : kind = 3
  · subst k3
    cases pc
    · skip
      have EP := hideIt (show sArcB x.pins ⟨3, (i : Int), dst, sense, delay, slew⟩ = false by unfold sArcB; simp [q1, q2, ci])
      have Q1 := hideIt q1
      have Q2 := hideIt q2
      clear q1 q2 ci
      go_enter Tryd.func32, Tryd.ntmps32
      go_wp2_with (go_at_call 31; refine (l01In_any _ _ _ _).mono ?_; rintro e w' ⟨rfl, rfl⟩; first | rw [Q1.out] | rw [Q2.out])
      try go_wp2
      go_ret
      exact ⟨ret_bool EP.out.symm, G.out⟩
    · skip
      by_cases e0 : dst = (x.pins.length : Int) - 1
      rotate_left
      · skip
        have EP := hideIt (show sArcB x.pins ⟨3, (i : Int), dst, sense, delay, slew⟩ = false by unfold sArcB; simp [q1, q2, ci, e0])
        have Q1 := hideIt q1
        have Q2 := hideIt q2
        clear q1 q2 ci
        go_enter Tryd.func32, Tryd.ntmps32
        go_wp2_with (go_at_call 31; refine (l01In_any _ _ _ _).mono ?_; rintro e w' ⟨rfl, rfl⟩; first | rw [Q1.out] | rw [Q2.out])
        try go_wp2
        go_ret
        exact ⟨ret_bool EP.out.symm, G.out⟩
      · skip
        subst e0
        by_cases z0 : sense = 0
        rotate_left
        · skip
          have EP := hideIt (show sArcB x.pins ⟨3, (i : Int), (x.pins.length : Int) - 1, sense, delay, slew⟩ = false by unfold sArcB; simp [q1, q2, ci, z0])
          have Q1 := hideIt q1
          have Q2 := hideIt q2
          clear q1 q2 ci
          go_enter Tryd.func32, Tryd.ntmps32
          go_wp2_with (go_at_call 31; refine (l01In_any _ _ _ _).mono ?_; rintro e w' ⟨rfl, rfl⟩; first | rw [Q1.out] | rw [Q2.out])
          try go_wp2
          go_ret
          exact ⟨ret_bool EP.out.symm, G.out⟩
        · skip
          subst z0
          cases f4 : tablesB delay true
          · skip
            have EP := hideIt (show sArcB x.pins ⟨3, (i : Int), (x.pins.length : Int) - 1, 0, delay, slew⟩ = false by unfold sArcB; simp [q1, q2, ci, f4])
            have Q1 := hideIt q1
            have Q2 := hideIt q2
            have Hf4 := hideIt f4
            clear q1 q2 ci f4
            go_enter Tryd.func32, Tryd.ntmps32
            go_wp2_with (go_at_call 31; refine (l01In_any _ _ _ _).mono ?_; rintro e w' ⟨rfl, rfl⟩; first | rw [Q1.out] | rw [Q2.out])
            refine (l03Tables_any true _ HD.out).mono ?_
            rintro e w1 ⟨rfl, g1⟩
            rw [Hf4.out]
            have G1 := hideIt (G.out.trans g1)
            replace B2 := hideIt (B2.out.grows g1)
            have HS1 := hideIt (HS.out.keep g1.keeps)
            have kd0 : w1.cell? ⟨w.heap.size + 1, 5, none⟩ = some (.slice E slew.length ne) := B2.out.cell 5
            have kl0 := B2.out.lt
            clear g1
            try go_wp2
            go_ret
            exact ⟨ret_bool EP.out.symm, G1.out⟩
          · skip
            cases f5 : tablesB slew true
            · skip
              have EP := hideIt (show sArcB x.pins ⟨3, (i : Int), (x.pins.length : Int) - 1, 0, delay, slew⟩ = false by unfold sArcB; simp [q1, q2, ci, f4, f5])
              have Q1 := hideIt q1
              have Q2 := hideIt q2
              have Hf4 := hideIt f4
              have Hf5 := hideIt f5
              clear q1 q2 ci f4 f5
              go_enter Tryd.func32, Tryd.ntmps32
              go_wp2_with (go_at_call 31; refine (l01In_any _ _ _ _).mono ?_; rintro e w' ⟨rfl, rfl⟩; first | rw [Q1.out] | rw [Q2.out])
              refine (l03Tables_any true _ HD.out).mono ?_
              rintro e w1 ⟨rfl, g1⟩
              rw [Hf4.out]
              have G1 := hideIt (G.out.trans g1)
              replace B2 := hideIt (B2.out.grows g1)
              have HS1 := hideIt (HS.out.keep g1.keeps)
              have kd0 : w1.cell? ⟨w.heap.size + 1, 5, none⟩ = some (.slice E slew.length ne) := B2.out.cell 5
              have kl0 := B2.out.lt
              clear g1
              go_wp2_with fail
              refine (l03Tables_any true _ HS1.out).mono ?_
              rintro e w2 ⟨rfl, g2⟩
              rw [Hf5.out]
              replace G1 := hideIt (G1.out.trans g2)
              replace B2 := hideIt (B2.out.grows g2)
              have kd1 : w2.cell? ⟨w.heap.size + 1, 5, none⟩ = some (.slice E slew.length ne) := B2.out.cell 5
              have kl1 := B2.out.lt
              clear g2
              try go_wp2
              go_ret
              exact ⟨ret_bool EP.out.symm, G1.out⟩
            · skip
              have EP := hideIt (show sArcB x.pins ⟨3, (i : Int), (x.pins.length : Int) - 1, 0, delay, slew⟩ = true by unfold sArcB; simp [q1, q2, ci, f4, f5])
              have Q1 := hideIt q1
              have Q2 := hideIt q2
              have Hf4 := hideIt f4
              have Hf5 := hideIt f5
              clear q1 q2 ci f4 f5
              go_enter Tryd.func32, Tryd.ntmps32
              go_wp2_with (go_at_call 31; refine (l01In_any _ _ _ _).mono ?_; rintro e w' ⟨rfl, rfl⟩; first | rw [Q1.out] | rw [Q2.out])
              refine (l03Tables_any true _ HD.out).mono ?_
              rintro e w1 ⟨rfl, g1⟩
              rw [Hf4.out]
              have G1 := hideIt (G.out.trans g1)
              replace B2 := hideIt (B2.out.grows g1)
              have HS1 := hideIt (HS.out.keep g1.keeps)
              have kd0 : w1.cell? ⟨w.heap.size + 1, 5, none⟩ = some (.slice E slew.length ne) := B2.out.cell 5
              have kl0 := B2.out.lt
              clear g1
              go_wp2_with fail
              refine (l03Tables_any true _ HS1.out).mono ?_
              rintro e w2 ⟨rfl, g2⟩
              rw [Hf5.out]
              replace G1 := hideIt (G1.out.trans g2)
              replace B2 := hideIt (B2.out.grows g2)
              have kd1 : w2.cell? ⟨w.heap.size + 1, 5, none⟩ = some (.slice E slew.length ne) := B2.out.cell 5
              have kl1 := B2.out.lt
              clear g2
              try go_wp2
              go_ret
              exact ⟨ret_bool EP.out.symm, G1.out⟩
  by_cases k4 : kind = 4
  · subst k4
    obtain ⟨j, rfl⟩ : ∃ j : Nat, dst = (j : Int) := ⟨dst.toNat, by omega⟩
    obtain ⟨r, hr⟩ : ∃ r, x.pins[j]? = some r := ⟨_, List.getElem?_eq_getElem (by omega)⟩
    have cj := clkAt_of hr
    have kr : w.cell? ⟨b, off + j * 4 + 3, none⟩ = some (.bool r.clock) := by
      obtain ⟨b', off', e, cs', hl2, hcs2, hrr⟩ := HX.out j r hr
      injection e with e
      injection e with e1 e2
      subst e1 e2
      obtain ⟨d0, d1, d2, d3, rfl⟩ := list4 hl2
      obtain ⟨rfl, rfl, rfl, rfl, -⟩ := hrr.parts
      simpa [Nat.add_assoc] using hcs2 3 _ rfl
    have KR := G.out.keeps _ _ kr
    clear kr hr
    generalize hrc : r.clock = rc at *
    clear hrc r
    cases pc
    · skip
      have EP := hideIt (show sArcB x.pins ⟨4, (i : Int), (j : Int), sense, delay, slew⟩ = false by unfold sArcB; simp [q1, q2, ci, cj])
      have Q1 := hideIt q1
      have Q2 := hideIt q2
      clear q1 q2 ci cj
      go_enter Tryd.func32, Tryd.ntmps32
      go_wp2_with (go_at_call 31; refine (l01In_any _ _ _ _).mono ?_; rintro e w' ⟨rfl, rfl⟩; first | rw [Q1.out] | rw [Q2.out])
      try go_wp2
      go_ret
      exact ⟨ret_bool EP.out.symm, G.out⟩
    · skip
      by_cases e0 : (j : Int) < (x.pins.length : Int) - 1
      rotate_left
      · skip
        have EP := hideIt (show sArcB x.pins ⟨4, (i : Int), (j : Int), sense, delay, slew⟩ = false by unfold sArcB; simp [q1, q2, ci, cj, e0])
        have Q1 := hideIt q1
        have Q2 := hideIt q2
        clear q1 q2 ci cj
        go_enter Tryd.func32, Tryd.ntmps32
        go_wp2_with (go_at_call 31; refine (l01In_any _ _ _ _).mono ?_; rintro e w' ⟨rfl, rfl⟩; first | rw [Q1.out] | rw [Q2.out])
        try go_wp2
        go_ret
        exact ⟨ret_bool EP.out.symm, G.out⟩
      · skip
        cases rc
        rotate_left
        · skip
          have EP := hideIt (show sArcB x.pins ⟨4, (i : Int), (j : Int), sense, delay, slew⟩ = false by unfold sArcB; simp [q1, q2, ci, cj, e0])
          have Q1 := hideIt q1
          have Q2 := hideIt q2
          clear q1 q2 ci cj
          go_enter Tryd.func32, Tryd.ntmps32
          go_wp2_with (go_at_call 31; refine (l01In_any _ _ _ _).mono ?_; rintro e w' ⟨rfl, rfl⟩; first | rw [Q1.out] | rw [Q2.out])
          try go_wp2
          go_ret
          exact ⟨ret_bool EP.out.symm, G.out⟩
        · skip
          by_cases z0 : sense = 0
          rotate_left
          · skip
            have EP := hideIt (show sArcB x.pins ⟨4, (i : Int), (j : Int), sense, delay, slew⟩ = false by unfold sArcB; simp [q1, q2, ci, cj, e0, z0])
            have Q1 := hideIt q1
            have Q2 := hideIt q2
            clear q1 q2 ci cj
            go_enter Tryd.func32, Tryd.ntmps32
            go_wp2_with (go_at_call 31; refine (l01In_any _ _ _ _).mono ?_; rintro e w' ⟨rfl, rfl⟩; first | rw [Q1.out] | rw [Q2.out])
            try go_wp2
            go_ret
            exact ⟨ret_bool EP.out.symm, G.out⟩
          · skip
            subst z0
            cases f4 : tablesB delay false
            · skip
              have EP := hideIt (show sArcB x.pins ⟨4, (i : Int), (j : Int), 0, delay, slew⟩ = false by unfold sArcB; simp [q1, q2, ci, cj, e0, f4])
              have Q1 := hideIt q1
              have Q2 := hideIt q2
              have Hf4 := hideIt f4
              clear q1 q2 ci cj f4
              go_enter Tryd.func32, Tryd.ntmps32
              go_wp2_with (go_at_call 31; refine (l01In_any _ _ _ _).mono ?_; rintro e w' ⟨rfl, rfl⟩; first | rw [Q1.out] | rw [Q2.out])
              refine (l03Tables_any false _ HD.out).mono ?_
              rintro e w1 ⟨rfl, g1⟩
              rw [Hf4.out]
              have G1 := hideIt (G.out.trans g1)
              replace B2 := hideIt (B2.out.grows g1)
              have HS1 := hideIt (HS.out.keep g1.keeps)
              have kd0 : w1.cell? ⟨w.heap.size + 1, 5, none⟩ = some (.slice E slew.length ne) := B2.out.cell 5
              have kl0 := B2.out.lt
              clear g1
              try go_wp2
              go_ret
              exact ⟨ret_bool EP.out.symm, G1.out⟩
            · skip
              have el : decide (slew.length = 0) = ((slew.length : Int) == 0) := by rw [Bool.eq_iff_iff]; simp
              have EP := hideIt (show sArcB x.pins ⟨4, (i : Int), (j : Int), 0, delay, slew⟩ = ((slew.length : Int) == 0) by unfold sArcB; rw [← el]; simp [q1, q2, ci, cj, e0, f4])
              have Q1 := hideIt q1
              have Q2 := hideIt q2
              have Hf4 := hideIt f4
              clear q1 q2 ci cj f4
              go_enter Tryd.func32, Tryd.ntmps32
              go_wp2_with (go_at_call 31; refine (l01In_any _ _ _ _).mono ?_; rintro e w' ⟨rfl, rfl⟩; first | rw [Q1.out] | rw [Q2.out])
              refine (l03Tables_any false _ HD.out).mono ?_
              rintro e w1 ⟨rfl, g1⟩
              rw [Hf4.out]
              have G1 := hideIt (G.out.trans g1)
              replace B2 := hideIt (B2.out.grows g1)
              have HS1 := hideIt (HS.out.keep g1.keeps)
              have kd0 : w1.cell? ⟨w.heap.size + 1, 5, none⟩ = some (.slice E slew.length ne) := B2.out.cell 5
              have kl0 := B2.out.lt
              clear g1
              try go_wp2
              go_ret
              exact ⟨ret_bool EP.out.symm, G1.out⟩
  by_cases k5 : kind = 5
  · subst k5
    obtain ⟨j, rfl⟩ : ∃ j : Nat, dst = (j : Int) := ⟨dst.toNat, by omega⟩
    obtain ⟨r, hr⟩ : ∃ r, x.pins[j]? = some r := ⟨_, List.getElem?_eq_getElem (by omega)⟩
    have cj := clkAt_of hr
    have kr : w.cell? ⟨b, off + j * 4 + 3, none⟩ = some (.bool r.clock) := by
      obtain ⟨b', off', e, cs', hl2, hcs2, hrr⟩ := HX.out j r hr
      injection e with e
      injection e with e1 e2
      subst e1 e2
      obtain ⟨d0, d1, d2, d3, rfl⟩ := list4 hl2
      obtain ⟨rfl, rfl, rfl, rfl, -⟩ := hrr.parts
      simpa [Nat.add_assoc] using hcs2 3 _ rfl
    have KR := G.out.keeps _ _ kr
    clear kr hr
    generalize hrc : r.clock = rc at *
    clear hrc r
    cases pc
    · skip
      have EP := hideIt (show sArcB x.pins ⟨5, (i : Int), (j : Int), sense, delay, slew⟩ = false by unfold sArcB; simp [q1, q2, ci, cj])
      have Q1 := hideIt q1
      have Q2 := hideIt q2
      clear q1 q2 ci cj
      go_enter Tryd.func32, Tryd.ntmps32
      go_wp2_with (go_at_call 31; refine (l01In_any _ _ _ _).mono ?_; rintro e w' ⟨rfl, rfl⟩; first | rw [Q1.out] | rw [Q2.out])
      try go_wp2
      go_ret
      exact ⟨ret_bool EP.out.symm, G.out⟩
    · skip
      by_cases e0 : (j : Int) < (x.pins.length : Int) - 1
      rotate_left
      · skip
        have EP := hideIt (show sArcB x.pins ⟨5, (i : Int), (j : Int), sense, delay, slew⟩ = false by unfold sArcB; simp [q1, q2, ci, cj, e0])
        have Q1 := hideIt q1
        have Q2 := hideIt q2
        clear q1 q2 ci cj
        go_enter Tryd.func32, Tryd.ntmps32
        go_wp2_with (go_at_call 31; refine (l01In_any _ _ _ _).mono ?_; rintro e w' ⟨rfl, rfl⟩; first | rw [Q1.out] | rw [Q2.out])
        try go_wp2
        go_ret
        exact ⟨ret_bool EP.out.symm, G.out⟩
      · skip
        cases rc
        rotate_left
        · skip
          have EP := hideIt (show sArcB x.pins ⟨5, (i : Int), (j : Int), sense, delay, slew⟩ = false by unfold sArcB; simp [q1, q2, ci, cj, e0])
          have Q1 := hideIt q1
          have Q2 := hideIt q2
          clear q1 q2 ci cj
          go_enter Tryd.func32, Tryd.ntmps32
          go_wp2_with (go_at_call 31; refine (l01In_any _ _ _ _).mono ?_; rintro e w' ⟨rfl, rfl⟩; first | rw [Q1.out] | rw [Q2.out])
          try go_wp2
          go_ret
          exact ⟨ret_bool EP.out.symm, G.out⟩
        · skip
          by_cases z0 : sense = 0
          rotate_left
          · skip
            have EP := hideIt (show sArcB x.pins ⟨5, (i : Int), (j : Int), sense, delay, slew⟩ = false by unfold sArcB; simp [q1, q2, ci, cj, e0, z0])
            have Q1 := hideIt q1
            have Q2 := hideIt q2
            clear q1 q2 ci cj
            go_enter Tryd.func32, Tryd.ntmps32
            go_wp2_with (go_at_call 31; refine (l01In_any _ _ _ _).mono ?_; rintro e w' ⟨rfl, rfl⟩; first | rw [Q1.out] | rw [Q2.out])
            try go_wp2
            go_ret
            exact ⟨ret_bool EP.out.symm, G.out⟩
          · skip
            subst z0
            cases f4 : tablesB delay false
            · skip
              have EP := hideIt (show sArcB x.pins ⟨5, (i : Int), (j : Int), 0, delay, slew⟩ = false by unfold sArcB; simp [q1, q2, ci, cj, e0, f4])
              have Q1 := hideIt q1
              have Q2 := hideIt q2
              have Hf4 := hideIt f4
              clear q1 q2 ci cj f4
              go_enter Tryd.func32, Tryd.ntmps32
              go_wp2_with (go_at_call 31; refine (l01In_any _ _ _ _).mono ?_; rintro e w' ⟨rfl, rfl⟩; first | rw [Q1.out] | rw [Q2.out])
              refine (l03Tables_any false _ HD.out).mono ?_
              rintro e w1 ⟨rfl, g1⟩
              rw [Hf4.out]
              have G1 := hideIt (G.out.trans g1)
              replace B2 := hideIt (B2.out.grows g1)
              have HS1 := hideIt (HS.out.keep g1.keeps)
              have kd0 : w1.cell? ⟨w.heap.size + 1, 5, none⟩ = some (.slice E slew.length ne) := B2.out.cell 5
              have kl0 := B2.out.lt
              clear g1
              try go_wp2
              go_ret
              exact ⟨ret_bool EP.out.symm, G1.out⟩
            · skip
              have el : decide (slew.length = 0) = ((slew.length : Int) == 0) := by rw [Bool.eq_iff_iff]; simp
              have EP := hideIt (show sArcB x.pins ⟨5, (i : Int), (j : Int), 0, delay, slew⟩ = ((slew.length : Int) == 0) by unfold sArcB; rw [← el]; simp [q1, q2, ci, cj, e0, f4])
              have Q1 := hideIt q1
              have Q2 := hideIt q2
              have Hf4 := hideIt f4
              clear q1 q2 ci cj f4
              go_enter Tryd.func32, Tryd.ntmps32
              go_wp2_with (go_at_call 31; refine (l01In_any _ _ _ _).mono ?_; rintro e w' ⟨rfl, rfl⟩; first | rw [Q1.out] | rw [Q2.out])
              refine (l03Tables_any false _ HD.out).mono ?_
              rintro e w1 ⟨rfl, g1⟩
              rw [Hf4.out]
              have G1 := hideIt (G.out.trans g1)
              replace B2 := hideIt (B2.out.grows g1)
              have HS1 := hideIt (HS.out.keep g1.keeps)
              have kd0 : w1.cell? ⟨w.heap.size + 1, 5, none⟩ = some (.slice E slew.length ne) := B2.out.cell 5
              have kl0 := B2.out.lt
              clear g1
              try go_wp2
              go_ret
              exact ⟨ret_bool EP.out.symm, G1.out⟩
  · skip
    have EP := hideIt (show sArcB x.pins ⟨kind, (i : Int), dst, sense, delay, slew⟩ = false by unfold sArcB; simp [k1, k2, k3, k4, k5])
    have Q1 := hideIt q1
    have Q2 := hideIt q2
    clear q1 q2 ci
    go_enter Tryd.func32, Tryd.ntmps32
    go_wp2_with (go_at_call 31; refine (l01In_any _ _ _ _).mono ?_; rintro e w' ⟨rfl, rfl⟩; first | rw [Q1.out] | rw [Q2.out])
    try go_wp2
    go_ret
    exact ⟨ret_bool EP.out.symm, G.out⟩
end Go.Proofs.YtcaklodecejkhaaDoor
