/-
  Contract of the program's test whether a cell is as its kind says.
-/
import Derived.Test.YtocahjbmnkadjaaGreatDoorGJ
import Derived.Test.YtocahjbmnkadjaaGreatDoorGH
namespace Go.Proofs.YtocahjbmnkadjaaGreatDoor
open Go.RowKit
theorem output_lit {v0 v1 v2 v3 v4 v5 v6 : Value} {x : CellD} {m : Int} (w : World) (h : RCell w [v0, v1, v2, v3, v4, v5, v6] x) (hm : (x.pins.length : Int) - 1 = m) :
    Calls Tryz.prog 116 #[.agg #[v0, v1, v2, v3, v4, v5, v6]] w fun e w' => e = .returned (.int .i64 m) ∧ Grows w w' := by
  subst hm
  exact output_any w h
set_option maxHeartbeats 4000000 in
theorem isOfKind_any {v0 v1 v2 v3 v4 v5 v6 : Value} {x : CellD} (w : World) (h : RCell w [v0, v1, v2, v3, v4, v5, v6] x) (hn : 2 ≤ x.pins.length) (hn5 : x.pins.length ≤ 5) :
    Calls Tryz.prog 93 #[.agg #[v0, v1, v2, v3, v4, v5, v6]] w fun e w' => e = .returned (.bool (kindB x)) ∧ Grows w w' := by
  have h0 := h
  obtain ⟨-, rfl, hp, ha, ht, -, -, -⟩ := h.parts
  obtain ⟨name, kind, pins, arcs, truth, leak, energy⟩ := x
  have pl := RList.len hp
  have tl := RList.len ht
  obtain ⟨A, np, rfl, -, -, hx⟩ := RList.form hp
  obtain ⟨B, na, rfl⟩ : ∃ (D : Option Addr) (nd : Nat), v3 = .slice D arcs.length nd := by obtain ⟨D, c, e, -⟩ := RList.form ha; exact ⟨D, c, e⟩
  obtain ⟨T, nt, rfl⟩ : ∃ (D : Option Addr) (nd : Nat), v4 = .slice D truth.length nd := by obtain ⟨D, c, e, -⟩ := RList.form ht; exact ⟨D, c, e⟩
  have g0 := (Grows.refl w).alloc (.cells #[v0, .int .i64 kind, .slice A pins.length np, .slice B arcs.length na, .slice T truth.length nt, v5, v6] 71)
  have S := hideIt (Blk.new w 71 #[v0, .int .i64 kind, .slice A pins.length np, .slice B arcs.length na, .slice T truth.length nt, v5, v6])
  have HC0 := hideIt (h0.keep g0.keeps)
  have HT0 := hideIt (RInts.keep ht g0.keeps)
  have HX := hideIt hx
  have G := hideIt g0
  clear h h0 hp ha ht hx g0
  simp only at *
  go_enter Tryz.func93, Tryz.ntmps93
  go_wp2
  go_loopw [3, 5, 9] (fun c _ i wr => ∃ k : Nat, k ≤ pins.length ∧ i = .int .i64 (k : Int) ∧ c = .int .i64 (clkN pins k : Int) ∧ Grows (w.alloc (.cells #[v0, .int .i64 kind, .slice A pins.length np, .slice B arcs.length na, .slice T truth.length nt, v5, v6] 71)) wr) (fun _ _ i _ => pins.length - (intOf i).toNat)
  case atStart => exact ⟨0, by omega, rfl, rfl, Grows.refl _⟩
  case round =>
    obtain ⟨k, hk, rfl, rfl, hg⟩ := hrel
    have HG := hideIt hg
    have GG := hideIt (G.out.trans hg)
    have S2 := hideIt (S.out.grows hg)
    have cl := clkN_le pins k
    clear hg
    have kl := S2.out.lt
    have k0 : wr.cell? ⟨w.heap.size, 0, none⟩ = some (v0) := S2.out.cell 0
    have k1 : wr.cell? ⟨w.heap.size, 1, none⟩ = some (.int .i64 kind) := S2.out.cell 1
    have k2 : wr.cell? ⟨w.heap.size, 2, none⟩ = some (.slice A pins.length np) := S2.out.cell 2
    have k3 : wr.cell? ⟨w.heap.size, 3, none⟩ = some (.slice B arcs.length na) := S2.out.cell 3
    have k4 : wr.cell? ⟨w.heap.size, 4, none⟩ = some (.slice T truth.length nt) := S2.out.cell 4
    have k5 : wr.cell? ⟨w.heap.size, 5, none⟩ = some (v5) := S2.out.cell 5
    have k6 : wr.cell? ⟨w.heap.size, 6, none⟩ = some (v6) := S2.out.cell 6
    by_cases hlt : k < pins.length
    · obtain ⟨p, hp⟩ : ∃ p, pins[k]? = some p := ⟨_, List.getElem?_eq_getElem hlt⟩
      obtain ⟨b, off, rfl, cs, hl1, hcs, hr⟩ := HX.out k p hp
      obtain ⟨d0, d1, d2, d3, rfl⟩ := list4 hl1
      obtain ⟨rfl, rfl, rfl, rfl, -⟩ := hr.parts
      have lift := GG.out.keeps
      have kp0 : wr.cell? ⟨b, off + k * 4, none⟩ = some (.string p.name) := lift _ _ (by simpa using hcs 0 _ rfl)
      have kp1 : wr.cell? ⟨b, off + k * 4 + 1, none⟩ = some (.int .i64 p.dir) := lift _ _ (by simpa [Nat.add_assoc] using hcs 1 _ rfl)
      have kp2 : wr.cell? ⟨b, off + k * 4 + 2, none⟩ = some (.int .i64 p.cap) := lift _ _ (by simpa [Nat.add_assoc] using hcs 2 _ rfl)
      have kp3 : wr.cell? ⟨b, off + k * 4 + 3, none⟩ = some (.bool p.clock) := lift _ _ (by simpa [Nat.add_assoc] using hcs 3 _ rfl)
      have CS := hideIt (clkN_succ hp)
      clear hcs hl1 hr hp lift
      cases hk0 : p.clock
      · have C1 : Hid (clkN pins (k + 1) = clkN pins k) := hideIt (by rw [CS.out, hk0]; rfl)
        go_wp2
        go_roundw
        case rel => exact ⟨k + 1, by omega, by go_num, by rw [C1.out], HG.out.alloc _⟩
        case measure => simp [intOf]; omega
      · have C1 : Hid (clkN pins (k + 1) = clkN pins k + 1) := hideIt (by rw [CS.out, hk0]; rfl)
        go_wp2
        go_roundw
        case rel => exact ⟨k + 1, by omega, by go_num, by rw [C1.out]; simp, HG.out.alloc _⟩
        case measure => simp [intOf]; omega
    · obtain rfl : k = pins.length := by omega
      have HC := hideIt (HC0.out.keep HG.out.keeps)
      have HT := hideIt (RInts.keep HT0.out HG.out.keeps)
      have KB : Hid (kindB (⟨name, kind, pins, arcs, truth, leak, energy⟩ : CellD) = kindB (⟨name, kind, pins, arcs, truth, leak, energy⟩ : CellD)) := hideIt rfl
      generalize hcl : clkN pins pins.length = c at *
      have K0 : ∀ w', Grows wr w' → w'.cell? ⟨w.heap.size, 0, none⟩ = some (v0) ∧ w'.cell? ⟨w.heap.size, 1, none⟩ = some (.int .i64 kind) ∧ w'.cell? ⟨w.heap.size, 2, none⟩ = some (.slice A pins.length np) ∧ w'.cell? ⟨w.heap.size, 3, none⟩ = some (.slice B arcs.length na) ∧ w'.cell? ⟨w.heap.size, 4, none⟩ = some (.slice T truth.length nt) ∧ w'.cell? ⟨w.heap.size, 5, none⟩ = some (v5) ∧ w'.cell? ⟨w.heap.size, 6, none⟩ = some (v6) ∧ Grows wr w' := fun w' G => ⟨(G.cells.1 _ _ S2.out.lt).trans (S2.out.cell 0), (G.cells.1 _ _ S2.out.lt).trans (S2.out.cell 1), (G.cells.1 _ _ S2.out.lt).trans (S2.out.cell 2), (G.cells.1 _ _ S2.out.lt).trans (S2.out.cell 3), (G.cells.1 _ _ S2.out.lt).trans (S2.out.cell 4), (G.cells.1 _ _ S2.out.lt).trans (S2.out.cell 5), (G.cells.1 _ _ S2.out.lt).trans (S2.out.cell 6), G⟩
      have HK := hideIt K0
      clear K0 KB
      have gg : Grows wr wr := Grows.refl _
      by_cases kk1 : kind = 1
      · subst kk1
        by_cases c0 : c = 0
        rotate_left
        · have c0' : ((c : Int) == 0) = false := by rw [beq_eq_false_iff_ne]; omega
          have EP : Hid (kindB ⟨name, 1, pins, arcs, truth, leak, energy⟩ = false) := hideIt (by unfold kindB; simp only [hcl]; simp [c0])
          clear hcl c0
          go_wp2
          go_quiet (fail)
          all_goals go_wp2
          all_goals go_ret
          all_goals exact ⟨ret_bool EP.out.symm, GG.out.trans (gg.drewN _)⟩
        subst c0
        have hpl : pins.length = 2 ∨ pins.length = 3 ∨ pins.length = 4 ∨ pins.length = 5 := by omega
        rcases hpl with hpl | hpl | hpl | hpl
        · have HN := hideIt (show (pins.length : Int) - 1 = 1 by rw [hpl]; rfl)
          have hwm : IntKind.i64.wrap 2 = 2 := by decide
          by_cases tz : truth.length = 2
          rotate_left
          · have tz' : ((truth.length : Int) == 2) = false := by rw [beq_eq_false_iff_ne]; omega
            have EP : Hid (kindB ⟨name, 1, pins, arcs, truth, leak, energy⟩ = false) := hideIt (by unfold kindB; simp only [hcl]; simp [hpl, tz])
            clear hcl tz hpl
            go_wp2
            refine wp_region_held_drew (S := (fun w' => w'.cell? ⟨w.heap.size, 0, none⟩ = some (v0) ∧ w'.cell? ⟨w.heap.size, 1, none⟩ = some (.int .i64 1) ∧ w'.cell? ⟨w.heap.size, 2, none⟩ = some (.slice A pins.length np) ∧ w'.cell? ⟨w.heap.size, 3, none⟩ = some (.slice B arcs.length na) ∧ w'.cell? ⟨w.heap.size, 4, none⟩ = some (.slice T truth.length nt) ∧ w'.cell? ⟨w.heap.size, 5, none⟩ = some (v5) ∧ w'.cell? ⟨w.heap.size, 6, none⟩ = some (v6) ∧ Grows wr w')) (by kernel_rfl) ?_ (fun hh0 => ?_)
            · (try dsimp only); exact HK.out _ gk
            refine regTk 0 hh0 ?_
            refine regTk 1 hh0 ?_
            refine regTk 2 hh0 ?_
            refine regTk 3 hh0 ?_
            refine regTk 4 hh0 ?_
            refine regTk 5 hh0 ?_
            refine regTk 6 hh0 ?_
            refine regCall 7 (fun K hK => ?_)
            go_simp
            refine (output_lit _ (HC.out.keep (Grows.keeps gk)) HN.out).mono ?_
            rintro e wx ⟨rfl, g⟩
            replace gg := gg.gt g
            clear g
            (try go_wp2_with fail)
            refine hK.out _ _ ?_ (fun hh1 => ?_)
            · (try dsimp only); exact HK.out _ gk
            clear hK K hh0
            try simp only [Act.put, List.setIfInBounds_toArray, List.set_cons_zero, List.set_cons_succ]
            refine regTk 8 hh1 ?_
            refine regTk 9 hh1 ?_
            refine regTk 10 hh1 ?_
            refine regTk 11 hh1 ?_
            refine regSk 12 hh1 ?_
            refine regSk 13 hh1 ?_
            refine regSk 14 hh1 ?_
            refine regTk 15 hh1 ?_
            refine regTk 16 hh1 ?_
            refine wpAnyH_done (by kernel_rfl) ?_ _
            all_goals go_wp2
            all_goals go_ret
            all_goals exact ⟨ret_bool EP.out.symm, GG.out.trans gk⟩
          have tz' : ((truth.length : Int) == 2) = true := by rw [beq_iff_eq]; omega
          obtain ⟨q, hq⟩ : ∃ q, wiB truth 0 1 = q := ⟨_, rfl⟩
          have EP : Hid (kindB ⟨name, 1, pins, arcs, truth, leak, energy⟩ = q) := hideIt (by unfold kindB; simp only [hcl]; simp [hpl, tz, ← hq, wiB])
          have F4 := hideIt hq
          clear hcl tz hq hpl
          go_wp2
          refine wp_region_held_drew (S := (fun w' => w'.cell? ⟨w.heap.size, 0, none⟩ = some (v0) ∧ w'.cell? ⟨w.heap.size, 1, none⟩ = some (.int .i64 1) ∧ w'.cell? ⟨w.heap.size, 2, none⟩ = some (.slice A pins.length np) ∧ w'.cell? ⟨w.heap.size, 3, none⟩ = some (.slice B arcs.length na) ∧ w'.cell? ⟨w.heap.size, 4, none⟩ = some (.slice T truth.length nt) ∧ w'.cell? ⟨w.heap.size, 5, none⟩ = some (v5) ∧ w'.cell? ⟨w.heap.size, 6, none⟩ = some (v6) ∧ Grows wr w')) (by kernel_rfl) ?_ (fun hh0 => ?_)
          · (try dsimp only); exact HK.out _ gk
          refine regTk 0 hh0 ?_
          refine regTk 1 hh0 ?_
          refine regTk 2 hh0 ?_
          refine regTk 3 hh0 ?_
          refine regTk 4 hh0 ?_
          refine regTk 5 hh0 ?_
          refine regTk 6 hh0 ?_
          refine regCall 7 (fun K hK => ?_)
          go_simp
          refine (output_lit _ (HC.out.keep (Grows.keeps gk)) HN.out).mono ?_
          rintro e wx ⟨rfl, g⟩
          replace gg := gg.gt g
          clear g
          (try go_wp2_with fail)
          refine hK.out _ _ ?_ (fun hh1 => ?_)
          · (try dsimp only); exact HK.out _ gk
          clear hK K hh0
          try simp only [Act.put, List.setIfInBounds_toArray, List.set_cons_zero, List.set_cons_succ]
          refine regTk 8 hh1 ?_
          refine regTk 9 hh1 ?_
          refine regTk 10 hh1 ?_
          refine regTk 11 hh1 ?_
          refine regTk 12 hh1 ?_
          refine regTk 13 hh1 ?_
          refine regCall 14 (fun K hK => ?_)
          go_simp
          refine (areWithin_any 0 1 _ (RInts.keep HT.out (Grows.keeps gk))).mono ?_
          rintro e wx ⟨rfl, g⟩
          rw [F4.out]
          replace gg := gg.gt g
          clear g
          (try go_wp2_with fail)
          refine hK.out _ _ ?_ (fun hh2 => ?_)
          · (try dsimp only); exact HK.out _ gk
          clear hK K hh1
          try simp only [Act.put, List.setIfInBounds_toArray, List.set_cons_zero, List.set_cons_succ]
          refine regTk 15 hh2 ?_
          refine regTk 16 hh2 ?_
          refine wpAnyH_done (by kernel_rfl) ?_ _
          all_goals go_wp2
          all_goals go_ret
          all_goals exact ⟨ret_bool EP.out.symm, GG.out.trans gk⟩
        · have HN := hideIt (show (pins.length : Int) - 1 = 2 by rw [hpl]; rfl)
          have hwm : IntKind.i64.wrap 4 = 4 := by decide
          by_cases tz : truth.length = 4
          rotate_left
          · have tz' : ((truth.length : Int) == 4) = false := by rw [beq_eq_false_iff_ne]; omega
            have EP : Hid (kindB ⟨name, 1, pins, arcs, truth, leak, energy⟩ = false) := hideIt (by unfold kindB; simp only [hcl]; simp [hpl, tz])
            clear hcl tz hpl
            go_wp2
            refine wp_region_held_drew (S := (fun w' => w'.cell? ⟨w.heap.size, 0, none⟩ = some (v0) ∧ w'.cell? ⟨w.heap.size, 1, none⟩ = some (.int .i64 1) ∧ w'.cell? ⟨w.heap.size, 2, none⟩ = some (.slice A pins.length np) ∧ w'.cell? ⟨w.heap.size, 3, none⟩ = some (.slice B arcs.length na) ∧ w'.cell? ⟨w.heap.size, 4, none⟩ = some (.slice T truth.length nt) ∧ w'.cell? ⟨w.heap.size, 5, none⟩ = some (v5) ∧ w'.cell? ⟨w.heap.size, 6, none⟩ = some (v6) ∧ Grows wr w')) (by kernel_rfl) ?_ (fun hh0 => ?_)
            · (try dsimp only); exact HK.out _ gk
            refine regTk 0 hh0 ?_
            refine regTk 1 hh0 ?_
            refine regTk 2 hh0 ?_
            refine regTk 3 hh0 ?_
            refine regTk 4 hh0 ?_
            refine regTk 5 hh0 ?_
            refine regTk 6 hh0 ?_
            refine regCall 7 (fun K hK => ?_)
            go_simp
            refine (output_lit _ (HC.out.keep (Grows.keeps gk)) HN.out).mono ?_
            rintro e wx ⟨rfl, g⟩
            replace gg := gg.gt g
            clear g
            (try go_wp2_with fail)
            refine hK.out _ _ ?_ (fun hh1 => ?_)
            · (try dsimp only); exact HK.out _ gk
            clear hK K hh0
            try simp only [Act.put, List.setIfInBounds_toArray, List.set_cons_zero, List.set_cons_succ]
            refine regTk 8 hh1 ?_
            refine regTk 9 hh1 ?_
            refine regTk 10 hh1 ?_
            refine regTk 11 hh1 ?_
            refine regSk 12 hh1 ?_
            refine regSk 13 hh1 ?_
            refine regSk 14 hh1 ?_
            refine regTk 15 hh1 ?_
            refine regTk 16 hh1 ?_
            refine wpAnyH_done (by kernel_rfl) ?_ _
            all_goals go_wp2
            all_goals go_ret
            all_goals exact ⟨ret_bool EP.out.symm, GG.out.trans gk⟩
          have tz' : ((truth.length : Int) == 4) = true := by rw [beq_iff_eq]; omega
          obtain ⟨q, hq⟩ : ∃ q, wiB truth 0 1 = q := ⟨_, rfl⟩
          have EP : Hid (kindB ⟨name, 1, pins, arcs, truth, leak, energy⟩ = q) := hideIt (by unfold kindB; simp only [hcl]; simp [hpl, tz, ← hq, wiB])
          have F4 := hideIt hq
          clear hcl tz hq hpl
          go_wp2
          refine wp_region_held_drew (S := (fun w' => w'.cell? ⟨w.heap.size, 0, none⟩ = some (v0) ∧ w'.cell? ⟨w.heap.size, 1, none⟩ = some (.int .i64 1) ∧ w'.cell? ⟨w.heap.size, 2, none⟩ = some (.slice A pins.length np) ∧ w'.cell? ⟨w.heap.size, 3, none⟩ = some (.slice B arcs.length na) ∧ w'.cell? ⟨w.heap.size, 4, none⟩ = some (.slice T truth.length nt) ∧ w'.cell? ⟨w.heap.size, 5, none⟩ = some (v5) ∧ w'.cell? ⟨w.heap.size, 6, none⟩ = some (v6) ∧ Grows wr w')) (by kernel_rfl) ?_ (fun hh0 => ?_)
          · (try dsimp only); exact HK.out _ gk
          refine regTk 0 hh0 ?_
          refine regTk 1 hh0 ?_
          refine regTk 2 hh0 ?_
          refine regTk 3 hh0 ?_
          refine regTk 4 hh0 ?_
          refine regTk 5 hh0 ?_
          refine regTk 6 hh0 ?_
          refine regCall 7 (fun K hK => ?_)
          go_simp
          refine (output_lit _ (HC.out.keep (Grows.keeps gk)) HN.out).mono ?_
          rintro e wx ⟨rfl, g⟩
          replace gg := gg.gt g
          clear g
          (try go_wp2_with fail)
          refine hK.out _ _ ?_ (fun hh1 => ?_)
          · (try dsimp only); exact HK.out _ gk
          clear hK K hh0
          try simp only [Act.put, List.setIfInBounds_toArray, List.set_cons_zero, List.set_cons_succ]
          refine regTk 8 hh1 ?_
          refine regTk 9 hh1 ?_
          refine regTk 10 hh1 ?_
          refine regTk 11 hh1 ?_
          refine regTk 12 hh1 ?_
          refine regTk 13 hh1 ?_
          refine regCall 14 (fun K hK => ?_)
          go_simp
          refine (areWithin_any 0 1 _ (RInts.keep HT.out (Grows.keeps gk))).mono ?_
          rintro e wx ⟨rfl, g⟩
          rw [F4.out]
          replace gg := gg.gt g
          clear g
          (try go_wp2_with fail)
          refine hK.out _ _ ?_ (fun hh2 => ?_)
          · (try dsimp only); exact HK.out _ gk
          clear hK K hh1
          try simp only [Act.put, List.setIfInBounds_toArray, List.set_cons_zero, List.set_cons_succ]
          refine regTk 15 hh2 ?_
          refine regTk 16 hh2 ?_
          refine wpAnyH_done (by kernel_rfl) ?_ _
          all_goals go_wp2
          all_goals go_ret
          all_goals exact ⟨ret_bool EP.out.symm, GG.out.trans gk⟩
        · have HN := hideIt (show (pins.length : Int) - 1 = 3 by rw [hpl]; rfl)
          have hwm : IntKind.i64.wrap 8 = 8 := by decide
          by_cases tz : truth.length = 8
          rotate_left
          · have tz' : ((truth.length : Int) == 8) = false := by rw [beq_eq_false_iff_ne]; omega
            have EP : Hid (kindB ⟨name, 1, pins, arcs, truth, leak, energy⟩ = false) := hideIt (by unfold kindB; simp only [hcl]; simp [hpl, tz])
            clear hcl tz hpl
            go_wp2
            refine wp_region_held_drew (S := (fun w' => w'.cell? ⟨w.heap.size, 0, none⟩ = some (v0) ∧ w'.cell? ⟨w.heap.size, 1, none⟩ = some (.int .i64 1) ∧ w'.cell? ⟨w.heap.size, 2, none⟩ = some (.slice A pins.length np) ∧ w'.cell? ⟨w.heap.size, 3, none⟩ = some (.slice B arcs.length na) ∧ w'.cell? ⟨w.heap.size, 4, none⟩ = some (.slice T truth.length nt) ∧ w'.cell? ⟨w.heap.size, 5, none⟩ = some (v5) ∧ w'.cell? ⟨w.heap.size, 6, none⟩ = some (v6) ∧ Grows wr w')) (by kernel_rfl) ?_ (fun hh0 => ?_)
            · (try dsimp only); exact HK.out _ gk
            refine regTk 0 hh0 ?_
            refine regTk 1 hh0 ?_
            refine regTk 2 hh0 ?_
            refine regTk 3 hh0 ?_
            refine regTk 4 hh0 ?_
            refine regTk 5 hh0 ?_
            refine regTk 6 hh0 ?_
            refine regCall 7 (fun K hK => ?_)
            go_simp
            refine (output_lit _ (HC.out.keep (Grows.keeps gk)) HN.out).mono ?_
            rintro e wx ⟨rfl, g⟩
            replace gg := gg.gt g
            clear g
            (try go_wp2_with fail)
            refine hK.out _ _ ?_ (fun hh1 => ?_)
            · (try dsimp only); exact HK.out _ gk
            clear hK K hh0
            try simp only [Act.put, List.setIfInBounds_toArray, List.set_cons_zero, List.set_cons_succ]
            refine regTk 8 hh1 ?_
            refine regTk 9 hh1 ?_
            refine regTk 10 hh1 ?_
            refine regTk 11 hh1 ?_
            refine regSk 12 hh1 ?_
            refine regSk 13 hh1 ?_
            refine regSk 14 hh1 ?_
            refine regTk 15 hh1 ?_
            refine regTk 16 hh1 ?_
            refine wpAnyH_done (by kernel_rfl) ?_ _
            all_goals go_wp2
            all_goals go_ret
            all_goals exact ⟨ret_bool EP.out.symm, GG.out.trans gk⟩
          have tz' : ((truth.length : Int) == 8) = true := by rw [beq_iff_eq]; omega
          obtain ⟨q, hq⟩ : ∃ q, wiB truth 0 1 = q := ⟨_, rfl⟩
          have EP : Hid (kindB ⟨name, 1, pins, arcs, truth, leak, energy⟩ = q) := hideIt (by unfold kindB; simp only [hcl]; simp [hpl, tz, ← hq, wiB])
          have F4 := hideIt hq
          clear hcl tz hq hpl
          go_wp2
          refine wp_region_held_drew (S := (fun w' => w'.cell? ⟨w.heap.size, 0, none⟩ = some (v0) ∧ w'.cell? ⟨w.heap.size, 1, none⟩ = some (.int .i64 1) ∧ w'.cell? ⟨w.heap.size, 2, none⟩ = some (.slice A pins.length np) ∧ w'.cell? ⟨w.heap.size, 3, none⟩ = some (.slice B arcs.length na) ∧ w'.cell? ⟨w.heap.size, 4, none⟩ = some (.slice T truth.length nt) ∧ w'.cell? ⟨w.heap.size, 5, none⟩ = some (v5) ∧ w'.cell? ⟨w.heap.size, 6, none⟩ = some (v6) ∧ Grows wr w')) (by kernel_rfl) ?_ (fun hh0 => ?_)
          · (try dsimp only); exact HK.out _ gk
          refine regTk 0 hh0 ?_
          refine regTk 1 hh0 ?_
          refine regTk 2 hh0 ?_
          refine regTk 3 hh0 ?_
          refine regTk 4 hh0 ?_
          refine regTk 5 hh0 ?_
          refine regTk 6 hh0 ?_
          refine regCall 7 (fun K hK => ?_)
          go_simp
          refine (output_lit _ (HC.out.keep (Grows.keeps gk)) HN.out).mono ?_
          rintro e wx ⟨rfl, g⟩
          replace gg := gg.gt g
          clear g
          (try go_wp2_with fail)
          refine hK.out _ _ ?_ (fun hh1 => ?_)
          · (try dsimp only); exact HK.out _ gk
          clear hK K hh0
          try simp only [Act.put, List.setIfInBounds_toArray, List.set_cons_zero, List.set_cons_succ]
          refine regTk 8 hh1 ?_
          refine regTk 9 hh1 ?_
          refine regTk 10 hh1 ?_
          refine regTk 11 hh1 ?_
          refine regTk 12 hh1 ?_
          refine regTk 13 hh1 ?_
          refine regCall 14 (fun K hK => ?_)
          go_simp
          refine (areWithin_any 0 1 _ (RInts.keep HT.out (Grows.keeps gk))).mono ?_
          rintro e wx ⟨rfl, g⟩
          rw [F4.out]
          replace gg := gg.gt g
          clear g
          (try go_wp2_with fail)
          refine hK.out _ _ ?_ (fun hh2 => ?_)
          · (try dsimp only); exact HK.out _ gk
          clear hK K hh1
          try simp only [Act.put, List.setIfInBounds_toArray, List.set_cons_zero, List.set_cons_succ]
          refine regTk 15 hh2 ?_
          refine regTk 16 hh2 ?_
          refine wpAnyH_done (by kernel_rfl) ?_ _
          all_goals go_wp2
          all_goals go_ret
          all_goals exact ⟨ret_bool EP.out.symm, GG.out.trans gk⟩
        · have HN := hideIt (show (pins.length : Int) - 1 = 4 by rw [hpl]; rfl)
          have hwm : IntKind.i64.wrap 16 = 16 := by decide
          by_cases tz : truth.length = 16
          rotate_left
          · have tz' : ((truth.length : Int) == 16) = false := by rw [beq_eq_false_iff_ne]; omega
            have EP : Hid (kindB ⟨name, 1, pins, arcs, truth, leak, energy⟩ = false) := hideIt (by unfold kindB; simp only [hcl]; simp [hpl, tz])
            clear hcl tz hpl
            go_wp2
            refine wp_region_held_drew (S := (fun w' => w'.cell? ⟨w.heap.size, 0, none⟩ = some (v0) ∧ w'.cell? ⟨w.heap.size, 1, none⟩ = some (.int .i64 1) ∧ w'.cell? ⟨w.heap.size, 2, none⟩ = some (.slice A pins.length np) ∧ w'.cell? ⟨w.heap.size, 3, none⟩ = some (.slice B arcs.length na) ∧ w'.cell? ⟨w.heap.size, 4, none⟩ = some (.slice T truth.length nt) ∧ w'.cell? ⟨w.heap.size, 5, none⟩ = some (v5) ∧ w'.cell? ⟨w.heap.size, 6, none⟩ = some (v6) ∧ Grows wr w')) (by kernel_rfl) ?_ (fun hh0 => ?_)
            · (try dsimp only); exact HK.out _ gk
            refine regTk 0 hh0 ?_
            refine regTk 1 hh0 ?_
            refine regTk 2 hh0 ?_
            refine regTk 3 hh0 ?_
            refine regTk 4 hh0 ?_
            refine regTk 5 hh0 ?_
            refine regTk 6 hh0 ?_
            refine regCall 7 (fun K hK => ?_)
            go_simp
            refine (output_lit _ (HC.out.keep (Grows.keeps gk)) HN.out).mono ?_
            rintro e wx ⟨rfl, g⟩
            replace gg := gg.gt g
            clear g
            (try go_wp2_with fail)
            refine hK.out _ _ ?_ (fun hh1 => ?_)
            · (try dsimp only); exact HK.out _ gk
            clear hK K hh0
            try simp only [Act.put, List.setIfInBounds_toArray, List.set_cons_zero, List.set_cons_succ]
            refine regTk 8 hh1 ?_
            refine regTk 9 hh1 ?_
            refine regTk 10 hh1 ?_
            refine regTk 11 hh1 ?_
            refine regSk 12 hh1 ?_
            refine regSk 13 hh1 ?_
            refine regSk 14 hh1 ?_
            refine regTk 15 hh1 ?_
            refine regTk 16 hh1 ?_
            refine wpAnyH_done (by kernel_rfl) ?_ _
            all_goals go_wp2
            all_goals go_ret
            all_goals exact ⟨ret_bool EP.out.symm, GG.out.trans gk⟩
          have tz' : ((truth.length : Int) == 16) = true := by rw [beq_iff_eq]; omega
          obtain ⟨q, hq⟩ : ∃ q, wiB truth 0 1 = q := ⟨_, rfl⟩
          have EP : Hid (kindB ⟨name, 1, pins, arcs, truth, leak, energy⟩ = q) := hideIt (by unfold kindB; simp only [hcl]; simp [hpl, tz, ← hq, wiB])
          have F4 := hideIt hq
          clear hcl tz hq hpl
          go_wp2
          refine wp_region_held_drew (S := (fun w' => w'.cell? ⟨w.heap.size, 0, none⟩ = some (v0) ∧ w'.cell? ⟨w.heap.size, 1, none⟩ = some (.int .i64 1) ∧ w'.cell? ⟨w.heap.size, 2, none⟩ = some (.slice A pins.length np) ∧ w'.cell? ⟨w.heap.size, 3, none⟩ = some (.slice B arcs.length na) ∧ w'.cell? ⟨w.heap.size, 4, none⟩ = some (.slice T truth.length nt) ∧ w'.cell? ⟨w.heap.size, 5, none⟩ = some (v5) ∧ w'.cell? ⟨w.heap.size, 6, none⟩ = some (v6) ∧ Grows wr w')) (by kernel_rfl) ?_ (fun hh0 => ?_)
          · (try dsimp only); exact HK.out _ gk
          refine regTk 0 hh0 ?_
          refine regTk 1 hh0 ?_
          refine regTk 2 hh0 ?_
          refine regTk 3 hh0 ?_
          refine regTk 4 hh0 ?_
          refine regTk 5 hh0 ?_
          refine regTk 6 hh0 ?_
          refine regCall 7 (fun K hK => ?_)
          go_simp
          refine (output_lit _ (HC.out.keep (Grows.keeps gk)) HN.out).mono ?_
          rintro e wx ⟨rfl, g⟩
          replace gg := gg.gt g
          clear g
          (try go_wp2_with fail)
          refine hK.out _ _ ?_ (fun hh1 => ?_)
          · (try dsimp only); exact HK.out _ gk
          clear hK K hh0
          try simp only [Act.put, List.setIfInBounds_toArray, List.set_cons_zero, List.set_cons_succ]
          refine regTk 8 hh1 ?_
          refine regTk 9 hh1 ?_
          refine regTk 10 hh1 ?_
          refine regTk 11 hh1 ?_
          refine regTk 12 hh1 ?_
          refine regTk 13 hh1 ?_
          refine regCall 14 (fun K hK => ?_)
          go_simp
          refine (areWithin_any 0 1 _ (RInts.keep HT.out (Grows.keeps gk))).mono ?_
          rintro e wx ⟨rfl, g⟩
          rw [F4.out]
          replace gg := gg.gt g
          clear g
          (try go_wp2_with fail)
          refine hK.out _ _ ?_ (fun hh2 => ?_)
          · (try dsimp only); exact HK.out _ gk
          clear hK K hh1
          try simp only [Act.put, List.setIfInBounds_toArray, List.set_cons_zero, List.set_cons_succ]
          refine regTk 15 hh2 ?_
          refine regTk 16 hh2 ?_
          refine wpAnyH_done (by kernel_rfl) ?_ _
          all_goals go_wp2
          all_goals go_ret
          all_goals exact ⟨ret_bool EP.out.symm, GG.out.trans gk⟩
      by_cases kk2 : kind = 2
      · subst kk2
        by_cases c0 : c = 1
        rotate_left
        · have c0' : ((c : Int) == 1) = false := by rw [beq_eq_false_iff_ne]; omega
          have EP : Hid (kindB ⟨name, 2, pins, arcs, truth, leak, energy⟩ = false) := hideIt (by unfold kindB; simp only [hcl]; simp [c0])
          clear hcl c0
          go_wp2
          go_quiet (fail)
          all_goals go_wp2
          all_goals go_ret
          all_goals exact ⟨ret_bool EP.out.symm, GG.out.trans (gg.drewN _)⟩
        subst c0
        by_cases tz : truth.length = 0
        rotate_left
        · have tz' : ((truth.length : Int) == 0) = false := by rw [beq_eq_false_iff_ne]; omega
          have EP : Hid (kindB ⟨name, 2, pins, arcs, truth, leak, energy⟩ = false) := hideIt (by unfold kindB; simp only [hcl]; simp [tz])
          clear hcl tz
          go_wp2
          go_quiet (fail)
          all_goals go_wp2
          all_goals go_ret
          all_goals exact ⟨ret_bool EP.out.symm, GG.out.trans (gg.drewN _)⟩
        have tz' : ((truth.length : Int) == 0) = true := by rw [beq_iff_eq]; omega
        cases h1 : hasB arcs 1
        rotate_left
        · skip
          have EP : Hid (kindB ⟨name, 2, pins, arcs, truth, leak, energy⟩ = false) := hideIt (by unfold kindB; simp only [hcl]; simp [h1])
          have F1 := hideIt h1
          clear hcl tz h1
          go_wp2
          refine wp_region_held_drew (S := (fun w' => w'.cell? ⟨w.heap.size, 0, none⟩ = some (v0) ∧ w'.cell? ⟨w.heap.size, 1, none⟩ = some (.int .i64 2) ∧ w'.cell? ⟨w.heap.size, 2, none⟩ = some (.slice A pins.length np) ∧ w'.cell? ⟨w.heap.size, 3, none⟩ = some (.slice B arcs.length na) ∧ w'.cell? ⟨w.heap.size, 4, none⟩ = some (.slice T truth.length nt) ∧ w'.cell? ⟨w.heap.size, 5, none⟩ = some (v5) ∧ w'.cell? ⟨w.heap.size, 6, none⟩ = some (v6) ∧ Grows wr w')) (by kernel_rfl) ?_ (fun hh0 => ?_)
          · (try dsimp only); exact HK.out _ gk
          refine regTk 0 hh0 ?_
          refine regTk 1 hh0 ?_
          refine regTk 2 hh0 ?_
          refine regTk 3 hh0 ?_
          refine regTk 4 hh0 ?_
          refine regTk 5 hh0 ?_
          refine regTk 6 hh0 ?_
          refine regTk 7 hh0 ?_
          refine regTk 8 hh0 ?_
          refine regTk 9 hh0 ?_
          refine regCall 10 (fun K hK => ?_)
          go_simp
          refine (has_any _ _ (HC.out.keep (Grows.keeps gk))).mono ?_
          rintro e wx ⟨rfl, g⟩
          rw [F1.out]
          replace gg := gg.gt g
          clear g
          (try go_wp2_with fail)
          refine hK.out _ _ ?_ (fun hh1 => ?_)
          · (try dsimp only); exact HK.out _ gk
          clear hK K hh0
          try simp only [Act.put, List.setIfInBounds_toArray, List.set_cons_zero, List.set_cons_succ]
          refine regTk 11 hh1 ?_
          refine regTk 12 hh1 ?_
          refine regTk 13 hh1 ?_
          refine regSk 14 hh1 ?_
          refine regSk 15 hh1 ?_
          refine regSk 16 hh1 ?_
          refine regSk 17 hh1 ?_
          refine regSk 18 hh1 ?_
          refine regTk 19 hh1 ?_
          refine regTk 20 hh1 ?_
          refine wpAnyH_done (by kernel_rfl) ?_ _
          all_goals go_wp2
          all_goals go_ret
          all_goals exact ⟨ret_bool EP.out.symm, GG.out.trans gk⟩
        obtain ⟨q2, h2⟩ : ∃ q, hasB arcs 2 = q := ⟨_, rfl⟩
        obtain ⟨q3, h3⟩ : ∃ q, hasB arcs 3 = q := ⟨_, rfl⟩
        have EP : Hid (kindB ⟨name, 2, pins, arcs, truth, leak, energy⟩ = (q2 != q3)) := hideIt (by unfold kindB; simp only [hcl]; simp [tz, h1, h2, h3])
        have F1 := hideIt h1
        have F2 := hideIt h2
        have F3 := hideIt h3
        clear hcl tz h1 h2 h3
        go_wp2
        refine wp_region_held_drew (S := (fun w' => w'.cell? ⟨w.heap.size, 0, none⟩ = some (v0) ∧ w'.cell? ⟨w.heap.size, 1, none⟩ = some (.int .i64 2) ∧ w'.cell? ⟨w.heap.size, 2, none⟩ = some (.slice A pins.length np) ∧ w'.cell? ⟨w.heap.size, 3, none⟩ = some (.slice B arcs.length na) ∧ w'.cell? ⟨w.heap.size, 4, none⟩ = some (.slice T truth.length nt) ∧ w'.cell? ⟨w.heap.size, 5, none⟩ = some (v5) ∧ w'.cell? ⟨w.heap.size, 6, none⟩ = some (v6) ∧ Grows wr w')) (by kernel_rfl) ?_ (fun hh0 => ?_)
        · (try dsimp only); exact HK.out _ gk
        refine regTk 0 hh0 ?_
        refine regTk 1 hh0 ?_
        refine regTk 2 hh0 ?_
        refine regTk 3 hh0 ?_
        refine regTk 4 hh0 ?_
        refine regTk 5 hh0 ?_
        refine regTk 6 hh0 ?_
        refine regTk 7 hh0 ?_
        refine regTk 8 hh0 ?_
        refine regTk 9 hh0 ?_
        refine regCall 10 (fun K hK => ?_)
        go_simp
        refine (has_any _ _ (HC.out.keep (Grows.keeps gk))).mono ?_
        rintro e wx ⟨rfl, g⟩
        rw [F1.out]
        replace gg := gg.gt g
        clear g
        (try go_wp2_with fail)
        refine hK.out _ _ ?_ (fun hh1 => ?_)
        · (try dsimp only); exact HK.out _ gk
        clear hK K hh0
        try simp only [Act.put, List.setIfInBounds_toArray, List.set_cons_zero, List.set_cons_succ]
        refine regTk 11 hh1 ?_
        refine regTk 12 hh1 ?_
        refine regTk 13 hh1 ?_
        refine regTk 14 hh1 ?_
        refine regTk 16 hh1 ?_
        refine regCall 15 (fun K hK => ?_)
        go_simp
        refine (has_any _ _ (HC.out.keep (Grows.keeps gk))).mono ?_
        rintro e wx ⟨rfl, g⟩
        rw [F2.out]
        replace gg := gg.gt g
        clear g
        (try go_wp2_with fail)
        refine hK.out _ _ ?_ (fun hh2 => ?_)
        · (try dsimp only); exact HK.out _ gk
        clear hK K hh1
        try simp only [Act.put, List.setIfInBounds_toArray, List.set_cons_zero, List.set_cons_succ]
        refine regCall 17 (fun K hK => ?_)
        go_simp
        refine (has_any _ _ (HC.out.keep (Grows.keeps gk))).mono ?_
        rintro e wx ⟨rfl, g⟩
        rw [F3.out]
        replace gg := gg.gt g
        clear g
        (try go_wp2_with fail)
        refine hK.out _ _ ?_ (fun hh3 => ?_)
        · (try dsimp only); exact HK.out _ gk
        clear hK K hh2
        try simp only [Act.put, List.setIfInBounds_toArray, List.set_cons_zero, List.set_cons_succ]
        refine regTk 18 hh3 ?_
        refine regTk 19 hh3 ?_
        refine regTk 20 hh3 ?_
        refine wpAnyH_done (by kernel_rfl) ?_ _
        all_goals go_wp2
        all_goals go_ret
        all_goals exact ⟨ret_bool EP.out.symm, GG.out.trans gk⟩
      by_cases kk3 : kind = 3
      · subst kk3
        by_cases c0 : c = 1
        rotate_left
        · have c0' : ((c : Int) == 1) = false := by rw [beq_eq_false_iff_ne]; omega
          have EP : Hid (kindB ⟨name, 3, pins, arcs, truth, leak, energy⟩ = false) := hideIt (by unfold kindB; simp only [hcl]; simp [c0])
          clear hcl c0
          go_wp2
          go_ret
          exact ⟨ret_bool EP.out.symm, GG.out.trans gk⟩
        subst c0
        by_cases tz : truth.length = 0
        rotate_left
        · have tz' : ((truth.length : Int) == 0) = false := by rw [beq_eq_false_iff_ne]; omega
          have EP : Hid (kindB ⟨name, 3, pins, arcs, truth, leak, energy⟩ = false) := hideIt (by unfold kindB; simp only [hcl]; simp [tz])
          clear hcl tz
          go_wp2
          go_ret
          exact ⟨ret_bool EP.out.symm, GG.out.trans gk⟩
        have tz' : ((truth.length : Int) == 0) = true := by rw [beq_iff_eq]; omega
        cases h1 : hasB arcs 1
        · skip
          have EP : Hid (kindB ⟨name, 3, pins, arcs, truth, leak, energy⟩ = false) := hideIt (by unfold kindB; simp only [hcl]; simp [h1])
          have F1 := hideIt h1
          clear hcl tz h1
          go_wp2_with fail
          refine (has_any _ _ (HC.out.keep (Grows.keeps gk))).mono ?_
          rintro e w1 ⟨rfl, g⟩
          rw [F1.out]
          replace gg := gg.gt g
          clear g
          obtain ⟨y_0, y_1, y_2, y_3, y_4, y_5, y_6, -⟩ := HK.out _ gg
          have yl1 : w.heap.size < w1.heap.size := Nat.lt_of_lt_of_le S2.out.lt gg.size
          go_wp2
          go_ret
          exact ⟨ret_bool EP.out.symm, GG.out.trans gk⟩
        cases h2 : hasB arcs 2
        · skip
          have EP : Hid (kindB ⟨name, 3, pins, arcs, truth, leak, energy⟩ = false) := hideIt (by unfold kindB; simp only [hcl]; simp [h2])
          have F1 := hideIt h1
          have F2 := hideIt h2
          clear hcl tz h1 h2
          go_wp2_with fail
          refine (has_any _ _ (HC.out.keep (Grows.keeps gk))).mono ?_
          rintro e w1 ⟨rfl, g⟩
          rw [F1.out]
          replace gg := gg.gt g
          clear g
          obtain ⟨y_0, y_1, y_2, y_3, y_4, y_5, y_6, -⟩ := HK.out _ gg
          have yl1 : w.heap.size < w1.heap.size := Nat.lt_of_lt_of_le S2.out.lt gg.size
          go_wp2_with fail
          refine (has_any _ _ (HC.out.keep (Grows.keeps gk))).mono ?_
          rintro e w2 ⟨rfl, g⟩
          rw [F2.out]
          replace gg := gg.gt g
          clear g
          obtain ⟨y_0, y_1, y_2, y_3, y_4, y_5, y_6, -⟩ := HK.out _ gg
          have yl2 : w.heap.size < w2.heap.size := Nat.lt_of_lt_of_le S2.out.lt gg.size
          go_wp2
          go_ret
          exact ⟨ret_bool EP.out.symm, GG.out.trans gk⟩
        cases h3 : hasB arcs 3
        · skip
          have EP : Hid (kindB ⟨name, 3, pins, arcs, truth, leak, energy⟩ = true) := hideIt (by unfold kindB; simp only [hcl]; simp [tz, h1, h2, h3])
          have F1 := hideIt h1
          have F2 := hideIt h2
          have F3 := hideIt h3
          clear hcl tz h1 h2 h3
          go_wp2_with fail
          refine (has_any _ _ (HC.out.keep (Grows.keeps gk))).mono ?_
          rintro e w1 ⟨rfl, g⟩
          rw [F1.out]
          replace gg := gg.gt g
          clear g
          obtain ⟨y_0, y_1, y_2, y_3, y_4, y_5, y_6, -⟩ := HK.out _ gg
          have yl1 : w.heap.size < w1.heap.size := Nat.lt_of_lt_of_le S2.out.lt gg.size
          go_wp2_with fail
          refine (has_any _ _ (HC.out.keep (Grows.keeps gk))).mono ?_
          rintro e w2 ⟨rfl, g⟩
          rw [F2.out]
          replace gg := gg.gt g
          clear g
          obtain ⟨y_0, y_1, y_2, y_3, y_4, y_5, y_6, -⟩ := HK.out _ gg
          have yl2 : w.heap.size < w2.heap.size := Nat.lt_of_lt_of_le S2.out.lt gg.size
          go_wp2_with fail
          refine (has_any _ _ (HC.out.keep (Grows.keeps gk))).mono ?_
          rintro e w3 ⟨rfl, g⟩
          rw [F3.out]
          replace gg := gg.gt g
          clear g
          obtain ⟨y_0, y_1, y_2, y_3, y_4, y_5, y_6, -⟩ := HK.out _ gg
          have yl3 : w.heap.size < w3.heap.size := Nat.lt_of_lt_of_le S2.out.lt gg.size
          go_wp2
          go_ret
          exact ⟨ret_bool EP.out.symm, GG.out.trans gk⟩
        · skip
          have EP : Hid (kindB ⟨name, 3, pins, arcs, truth, leak, energy⟩ = false) := hideIt (by unfold kindB; simp only [hcl]; simp [h3])
          have F1 := hideIt h1
          have F2 := hideIt h2
          have F3 := hideIt h3
          clear hcl tz h1 h2 h3
          go_wp2_with fail
          refine (has_any _ _ (HC.out.keep (Grows.keeps gk))).mono ?_
          rintro e w1 ⟨rfl, g⟩
          rw [F1.out]
          replace gg := gg.gt g
          clear g
          obtain ⟨y_0, y_1, y_2, y_3, y_4, y_5, y_6, -⟩ := HK.out _ gg
          have yl1 : w.heap.size < w1.heap.size := Nat.lt_of_lt_of_le S2.out.lt gg.size
          go_wp2_with fail
          refine (has_any _ _ (HC.out.keep (Grows.keeps gk))).mono ?_
          rintro e w2 ⟨rfl, g⟩
          rw [F2.out]
          replace gg := gg.gt g
          clear g
          obtain ⟨y_0, y_1, y_2, y_3, y_4, y_5, y_6, -⟩ := HK.out _ gg
          have yl2 : w.heap.size < w2.heap.size := Nat.lt_of_lt_of_le S2.out.lt gg.size
          go_wp2_with fail
          refine (has_any _ _ (HC.out.keep (Grows.keeps gk))).mono ?_
          rintro e w3 ⟨rfl, g⟩
          rw [F3.out]
          replace gg := gg.gt g
          clear g
          obtain ⟨y_0, y_1, y_2, y_3, y_4, y_5, y_6, -⟩ := HK.out _ gg
          have yl3 : w.heap.size < w3.heap.size := Nat.lt_of_lt_of_le S2.out.lt gg.size
          go_wp2
          go_ret
          exact ⟨ret_bool EP.out.symm, GG.out.trans gk⟩
      have EP : Hid (kindB ⟨name, kind, pins, arcs, truth, leak, energy⟩ = false) := hideIt (by unfold kindB; simp [kk1, kk2, kk3])
      clear hcl
      go_wp2
      go_ret
      exact ⟨ret_bool EP.out.symm, GG.out⟩
end Go.Proofs.YtocahjbmnkadjaaGreatDoor
