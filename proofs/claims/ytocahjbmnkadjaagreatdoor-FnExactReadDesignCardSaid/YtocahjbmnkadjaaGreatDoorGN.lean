/-
  Contract of the reference's IsLibrary.
-/
import Derived.Test.YtocahjbmnkadjaaGreatDoorGM
import Derived.Test.YtocahjbmnkadjaaGreatDoorGL
import Derived.Test.YtocahjbmnkadjaaGreatDoorGK
import Derived.Test.YtocahjbmnkadjaaGreatDoorRE
namespace Go.Proofs.YtocahjbmnkadjaaGreatDoor
open Go.RowKit
set_option maxHeartbeats 4000000 in
theorem sIsLib_any {v : Value} {cs : List CellD} (w : World) (h : RCells w v cs) :
    Calls Tryz.prog 14 #[.agg #[v]] w fun e w' => e = .returned (.bool (libB cs)) ∧ Grows w w' := by
  have cl := RList.len h
  obtain ⟨C, nc, rfl, -, -, hx⟩ := RList.form h
  have g0 := (Grows.refl w).alloc (.cells #[.slice C cs.length nc] 35)
  have S := hideIt (Blk.new w 35 #[.slice C cs.length nc])
  have HX := hideIt hx
  have G := hideIt g0
  clear h hx g0
  go_enter Tryz.func14, Tryz.ntmps14
  go_wp2
  go_loopw [3, 4] (fun i _ wr => ∃ k : Nat, k ≤ cs.length ∧ i = .int .i64 (k : Int) ∧ Hid (∀ (j : Nat) (x : CellD), j < k → cs[j]? = some x → CellP x ∧ ∀ (m : Nat) (y : CellD), m < j → cs[m]? = some y → ¬ y.name = x.name) ∧ Grows (w.alloc (.cells #[.slice C cs.length nc] 35)) wr) (fun i _ _ => cs.length - (intOf i).toNat)
  case atStart => exact ⟨0, by omega, rfl, fun j a hj => absurd hj (by omega), Grows.refl _⟩
  case round =>
    obtain ⟨k, hk, rfl, hco, hg⟩ := hrel
    have HG := hideIt hg
    have GG := hideIt (G.out.trans hg)
    have S2 := hideIt (S.out.grows hg)
    clear hg
    have kl := S2.out.lt
    have k0 : wr.cell? ⟨w.heap.size, 0, none⟩ = some (.slice C cs.length nc) := S2.out.cell 0
    by_cases hlt : k < cs.length
    · obtain ⟨x, hp⟩ : ∃ x, cs[k]? = some x := ⟨_, List.getElem?_eq_getElem hlt⟩
      obtain ⟨b, off, rfl, ds, hl1, hcs, hr⟩ := HX.out k x hp
      obtain ⟨d0, d1, d2, d3, d4, d5, d6, rfl⟩ := list7 hl1
      have HR := hideIt (hr.keep GG.out.keeps)
      obtain ⟨rfl, rfl, -, -, -, rfl, rfl, -⟩ := hr.parts
      have lift := GG.out.keeps
      have q0 : wr.cell? ⟨b, off + k * 7, none⟩ = some (.string x.name) := lift _ _ (by simpa [Nat.add_assoc] using hcs 0 _ rfl)
      have q1 : wr.cell? ⟨b, off + k * 7 + 1, none⟩ = some (.int .i64 x.kind) := lift _ _ (by simpa [Nat.add_assoc] using hcs 1 _ rfl)
      have q2 : wr.cell? ⟨b, off + k * 7 + 2, none⟩ = some (d2) := lift _ _ (by simpa [Nat.add_assoc] using hcs 2 _ rfl)
      have q3 : wr.cell? ⟨b, off + k * 7 + 3, none⟩ = some (d3) := lift _ _ (by simpa [Nat.add_assoc] using hcs 3 _ rfl)
      have q4 : wr.cell? ⟨b, off + k * 7 + 4, none⟩ = some (d4) := lift _ _ (by simpa [Nat.add_assoc] using hcs 4 _ rfl)
      have q5 : wr.cell? ⟨b, off + k * 7 + 5, none⟩ = some (.int .i64 x.leak) := lift _ _ (by simpa [Nat.add_assoc] using hcs 5 _ rfl)
      have q6 : wr.cell? ⟨b, off + k * 7 + 6, none⟩ = some (.int .i64 x.energy) := lift _ _ (by simpa [Nat.add_assoc] using hcs 6 _ rfl)
      have P1 := hideIt hp
      clear hcs hl1 hr hp lift
      go_wp2_with fail
      refine (sIsCell_any _ HR.out).mono ?_
      rintro e w2 ⟨rfl, g2⟩
      clear q0 q1 q2 q3 q4 q5 q6 k0 kl
      have HG2 := hideIt (HG.out.trans g2)
      have GG2 := hideIt (GG.out.trans g2)
      have S3 := hideIt (S2.out.grows g2)
      clear g2
      cases hc : cellB x
      · have EP := hideIt (show libB cs = false from pB_false fun h => by have := pB_true (h.1 k x P1.out); unfold cellB at hc; rw [this] at hc; cases hc)
        clear hc
        go_wp2
        go_ret
        exact ⟨ret_bool EP.out.symm, GG2.out⟩
      have HC := hideIt (pB_iff.1 hc)
      clear hc
      obtain ⟨wo, ewo⟩ : ∃ wo : World, wo = w2 := ⟨_, rfl⟩
      subst ewo
      go_wp2
      go_loopw [4] (fun i wr => ∃ q : Nat, q ≤ k ∧ i = .int .i64 (q : Int) ∧ Hid (∀ (j : Nat) (r : CellD), j < q → cs[j]? = some r → ¬ r.name = x.name) ∧ Grows wo wr) (fun i _ => k - (intOf i).toNat)
      case atStart => exact ⟨0, by omega, rfl, fun j r hj => absurd hj (by omega), Grows.refl _⟩
      case round =>
        obtain ⟨q, hq, rfl, hne, hg2⟩ := hrel
        have HG3 := hideIt (HG2.out.trans hg2)
        have GG3 := hideIt (GG2.out.trans hg2)
        have S4 := hideIt (S3.out.grows hg2)
        have HGQ := hideIt hg2
        clear hg2
        have kl := S4.out.lt
        have k0 : wr.cell? ⟨w.heap.size, 0, none⟩ = some (.slice (some ⟨b, off, none⟩) cs.length nc) := S4.out.cell 0
        by_cases hlq : q < k
        · obtain ⟨r, hr⟩ : ∃ r, cs[q]? = some r := ⟨_, List.getElem?_eq_getElem (by omega)⟩
          have kq : wr.cell? ⟨b, off + q * 7, none⟩ = some (.string r.name) := by
            obtain ⟨b', off', e, ds, hl1, hcs, hrr⟩ := HX.out q r hr
            injection e with e
            injection e with e1 e2
            subst e1 e2
            obtain ⟨d0, d1, d2, d3, d4, d5, d6, rfl⟩ := list7 hl1
            obtain ⟨rfl, -⟩ := hrr.parts
            exact GG3.out.keeps _ _ (by simpa using hcs 0 _ rfl)
          have kk : wr.cell? ⟨b, off + k * 7, none⟩ = some (.string x.name) := by
            obtain ⟨b', off', e, ds, hl1, hcs, hrr⟩ := HX.out k x P1.out
            injection e with e
            injection e with e1 e2
            subst e1 e2
            obtain ⟨d0, d1, d2, d3, d4, d5, d6, rfl⟩ := list7 hl1
            obtain ⟨rfl, -⟩ := hrr.parts
            exact GG3.out.keeps _ _ (by simpa using hcs 0 _ rfl)
          have Q1 := hideIt hr
          have kq2 : q < cs.length := by omega
          clear hr
          by_cases he : r.name = x.name
          · have EP := hideIt (show libB cs = false from pB_false fun h => h.2.1 q k r x hlq Q1.out P1.out he)
            have he1 : (r.name.toList == x.name.toList) = true := by rw [he]; simp
            clear he
            go_wp2
            (try (go_quiet (fail); go_wp2))
            go_ret
            exact ⟨ret_bool EP.out.symm, by first | exact GG3.out | exact GG3.out.drewN _⟩
          · have he1 := strNe he
            have HE := hideIt he
            clear he
            go_wp2
            (try (go_quiet (fail); go_wp2))
            go_roundw
            case rel => exact ⟨q + 1, by omega, by go_num, fun j s hj hs => by
              by_cases ej : j = q
              · subst ej
                rw [Q1.out] at hs
                injection hs with hs
                rw [← hs]
                exact HE.out
              · exact hne.out j s (by omega) hs, by first | exact HGQ.out | exact HGQ.out.drewN _⟩
            case measure => simp [intOf]; omega
        · obtain rfl : q = k := by omega
          go_wp2
          go_roundw
          case rel => exact ⟨q + 1, by omega, by go_num, fun j s hj hs => by
            by_cases ej : j = q
            · subst ej
              rw [P1.out] at hs
              injection hs with hs
              subst hs
              exact ⟨HC.out, fun m r hm hr => hne.out m r hm hr⟩
            · exact hco.out j s (by omega) hs, HG3.out⟩
          case measure => simp [intOf]; omega
    · obtain rfl : k = cs.length := by omega
      have EP := hideIt (show libB cs = decide ((cs.length : Int) ≤ 8) by
        have e : decide ((cs.length : Int) ≤ 8) = decide (cs.length ≤ 8) := by rw [Bool.eq_iff_iff]; simp only [decide_eq_true_eq]; omega
        rw [e]
        unfold libB
        rw [Bool.eq_iff_iff, pB_iff, decide_eq_true_eq]
        exact ⟨fun h => h.2.2, fun h => ⟨fun i x hi => (hco.out i x (List.getElem?_eq_some_iff.1 hi).1 hi).1, fun i j x y hij hi hj => (hco.out j y (List.getElem?_eq_some_iff.1 hj).1 hj).2 i x hij hi, h⟩⟩)
      clear hco
      go_wp2
      go_ret
      exact ⟨ret_bool EP.out.symm, GG.out⟩
end Go.Proofs.YtocahjbmnkadjaaGreatDoor
/-
  Contract of the program's IsLibrary.
-/
namespace Go.Proofs.YtocahjbmnkadjaaGreatDoor
open Go.RowKit
def cnV (cs : List CellD) (k : Nat) : List Value := ((cs.take k).map (·.name)).map (.string ·)
theorem cnV_succ {cs : List CellD} {k : Nat} {x : CellD} (h : cs[k]? = some x) : cnV cs (k + 1) = cnV cs k ++ [.string x.name] := by
  unfold cnV
  rw [List.take_add_one, h]
  simp
set_option maxHeartbeats 4000000 in
set_option maxRecDepth 10000 in
theorem iIsLib_any {v : Value} {cs : List CellD} (w : World) (h : RCells w v cs) (hs : SmCells cs) :
    Calls Tryz.prog 41 #[.agg #[v]] w fun e w' => e = .returned (.bool (libB cs)) ∧ Grows w w' := by
  obtain ⟨i0, hi, hz0, hz1, hz2⟩ := info_parts info_str
  have cl := RList.len h
  have hsm := hs.1
  unfold SmL at hsm
  obtain ⟨C, nc, rfl, -, -, hx⟩ := RList.form h
  have g0 := (Grows.refl w).alloc (.cells #[.slice C cs.length nc] 35)
  have S := hideIt (Blk.new w 35 #[.slice C cs.length nc])
  have HX := hideIt hx
  have HS := hideIt hs
  have G := hideIt g0
  have HN := hideIt (fun (i : Nat) (x : CellD) (hi : cs[i]? = some x) => (by obtain ⟨b, off, e, ds, hl1, hcs, hr⟩ := hx i x hi; obtain ⟨_, _, _, _, hz, _⟩ := hr; exact hz : x.name.size ≤ maxLen))
  clear h hx g0 hs
  go_enter Tryz.func41, Tryz.ntmps41
  go_wp2
  go_loopw [3, 5, 9] (fun s _ i wr => ∃ (nv : Value) (k : Nat), nv = s ∧ k ≤ cs.length ∧ i = .int .i64 (k : Int) ∧ Hid (wr.ownsRow (w.heap.size + 1) 9 1 nv k (cnV cs k)) ∧ Hid (∀ (j : Nat) (x : CellD), j < k → cs[j]? = some x → CellP x) ∧ Grows (w.alloc (.cells #[.slice C cs.length nc] 35)) wr) (fun _ _ i _ => cs.length - (intOf i).toNat)
  case atStart => exact ⟨_, 0, rfl, by omega, rfl, World.ownsRow_nil _ _ _ _, fun j p hj => absurd hj (by omega), Grows.refl _⟩
  case round =>
    obtain ⟨nv, k, rfl, hk, rfl, hown, hco, hg⟩ := hrel
    have HG := hideIt hg
    have GG := hideIt (G.out.trans hg)
    have S2 := hideIt (S.out.grows hg)
    clear hg
    have kl := S2.out.lt
    have k0 : wr.cell? ⟨w.heap.size, 0, none⟩ = some (.slice C cs.length nc) := S2.out.cell 0
    by_cases hlt : k < cs.length
    · obtain ⟨x, hp⟩ : ∃ x, cs[k]? = some x := ⟨_, List.getElem?_eq_getElem hlt⟩
      obtain ⟨b, off, rfl, ds, hl1, hcs, hr⟩ := HX.out k x hp
      obtain ⟨d0, d1, d2, d3, d4, d5, d6, rfl⟩ := list7 hl1
      obtain ⟨rfl, rfl, h2, h3, h4, rfl, rfl, -⟩ := hr.parts
      obtain ⟨A2, m2, rfl⟩ : ∃ (D : Option Addr) (nd : Nat), d2 = .slice D x.pins.length nd := by obtain ⟨D, c, e, -⟩ := RList.form h2; exact ⟨D, c, e⟩
      obtain ⟨A3, m3, rfl⟩ : ∃ (D : Option Addr) (nd : Nat), d3 = .slice D x.arcs.length nd := by obtain ⟨D, c, e, -⟩ := RList.form h3; exact ⟨D, c, e⟩
      obtain ⟨A4, m4, rfl⟩ : ∃ (D : Option Addr) (nd : Nat), d4 = .slice D x.truth.length nd := by obtain ⟨D, c, e, -⟩ := RList.form h4; exact ⟨D, c, e⟩
      have lift := GG.out.keeps
      have HR := hideIt ((hr.keep lift).keep ((Grows.refl wr).alloc (.cells #[.string x.name, .int .i64 x.kind, .slice A2 x.pins.length m2, .slice A3 x.arcs.length m3, .slice A4 x.truth.length m4, .int .i64 x.leak, .int .i64 x.energy] 71)).keeps)
      clear h2 h3 h4
      have q0 : wr.cell? ⟨b, off + k * 7, none⟩ = some (.string x.name) := lift _ _ (by simpa [Nat.add_assoc] using hcs 0 _ rfl)
      have q1 : wr.cell? ⟨b, off + k * 7 + 1, none⟩ = some (.int .i64 x.kind) := lift _ _ (by simpa [Nat.add_assoc] using hcs 1 _ rfl)
      have q2 : wr.cell? ⟨b, off + k * 7 + 2, none⟩ = some (.slice A2 x.pins.length m2) := lift _ _ (by simpa [Nat.add_assoc] using hcs 2 _ rfl)
      have q3 : wr.cell? ⟨b, off + k * 7 + 3, none⟩ = some (.slice A3 x.arcs.length m3) := lift _ _ (by simpa [Nat.add_assoc] using hcs 3 _ rfl)
      have q4 : wr.cell? ⟨b, off + k * 7 + 4, none⟩ = some (.slice A4 x.truth.length m4) := lift _ _ (by simpa [Nat.add_assoc] using hcs 4 _ rfl)
      have q5 : wr.cell? ⟨b, off + k * 7 + 5, none⟩ = some (.int .i64 x.leak) := lift _ _ (by simpa [Nat.add_assoc] using hcs 5 _ rfl)
      have q6 : wr.cell? ⟨b, off + k * 7 + 6, none⟩ = some (.int .i64 x.energy) := lift _ _ (by simpa [Nat.add_assoc] using hcs 6 _ rfl)
      have P1 := hideIt hp
      have SX := hideIt (HS.out.2 x (List.mem_of_getElem? hp)).2.1.1
      clear hcs hl1 hr hp lift
      have BV := hideIt (Blk.new wr 71 #[.string x.name, .int .i64 x.kind, .slice A2 x.pins.length m2, .slice A3 x.arcs.length m3, .slice A4 x.truth.length m4, .int .i64 x.leak, .int .i64 x.energy])
      have GW := hideIt ((Grows.refl wr).alloc (.cells #[.string x.name, .int .i64 x.kind, .slice A2 x.pins.length m2, .slice A3 x.arcs.length m3, .slice A4 x.truth.length m4, .int .i64 x.leak, .int .i64 x.energy] 71))
      have own1 := hideIt (hown.out.alloc (.cells #[.string x.name, .int .i64 x.kind, .slice A2 x.pins.length m2, .slice A3 x.arcs.length m3, .slice A4 x.truth.length m4, .int .i64 x.leak, .int .i64 x.energy] 71))
      have nlt : Hid (∀ q, nv.ownBlock = some q → w.heap.size + 1 ≤ q ∧ q < wr.heap.size) := hideIt hown.out.lt
      go_wp2_with fail
      refine (iIsCell_any _ HR.out SX.out).mono ?_
      rintro e w2 ⟨rfl, g2⟩
      clear q0 q1 q2 q3 q4 q5 q6 k0 kl
      have BV2 := hideIt (BV.out.grows g2)
      have GW2 := hideIt (GW.out.trans g2)
      have GG2 := hideIt (GG.out.trans GW2.out)
      have HG2 := hideIt (HG.out.trans GW2.out)
      have own2 := hideIt (ownsRow_grows own1.out g2)
      clear g2
      cases hc : cellB x
      · have EP := hideIt (show libB cs = false from pB_false fun h => by have := pB_true (h.1 k x P1.out); unfold cellB at hc; rw [this] at hc; cases hc)
        clear hc
        go_wp2
        go_ret
        exact ⟨ret_bool EP.out.symm, GG2.out⟩
      have HC := hideIt (pB_iff.1 hc)
      clear hc
      have v0 : w2.cell? ⟨wr.heap.size, 0, none⟩ = some (.string x.name) := BV2.out.cell 0
      have vl := BV2.out.lt
      have own3 := hideIt (own2.out.alloc (.cells #[.string x.name] 9))
      have G3 := hideIt (HG2.out.alloc (.cells #[.string x.name] 9))
      go_wp2_with (at_builtin; refine wpList_append_own _ rfl _ _ 27 rfl (w.heap.size + 1) 9 i0 (.string .empty) 1 16 Tryz.underlying27 hi hz0 hz1 hz2 rfl (by decide) nv k (cnV cs k) rfl own3.out ⟨w2.heap.size, 0, none⟩ 1 1 [.string x.name] rfl ?c1 ?c2 ?c3 ?c4 ?c5 ?c6 ?_)
      case c1 => simp
      case c2 =>
        intro j u hj
        match j, hj with
        | 0, hj => simp at hj; subst hj; simp [Addr.add]
      case c3 => intro u hu; simp at hu; subst hu; rfl
      case c4 => unfold maxLen; omega
      case c5 => omega
      case c6 => have := G3.out.size; simpa using this
      intro v' w1 hown2 hgrow hnil
      have G4 := hideIt (G3.out.grown hgrow (fun q e => by have := (nlt.out q e).1; simpa using this))
      have OW := hideIt (show w1.ownsRow (w.heap.size + 1) 9 1 v' (k + 1) (cnV cs (k + 1)) by rw [cnV_succ P1.out]; exact hown2)
      clear hown2 hgrow hnil v0 vl own3 own2 own1
      go_wp2
      go_roundw
      case rel => exact ⟨_, k + 1, rfl, by omega, by go_num, OW.out, fun j s hj hs => by
        by_cases ej : j = k
        · subst ej
          rw [P1.out] at hs
          injection hs with hs
          subst hs
          exact HC.out
        · exact hco.out j s (by omega) hs, G4.out⟩
      case measure => simp [intOf]; omega
    · obtain rfl : k = cs.length := by omega
      have RS := hideIt (own_strs (n := cs.length) (base := w.heap.size + 1) (xs := cs.map (·.name)) (by simp) (by have := hown.out; unfold cnV at this; rw [List.take_length] at this; exact this) (fun x hx => by
        obtain ⟨p, hp, rfl⟩ := List.mem_map.1 hx
        obtain ⟨i, hi⟩ := List.getElem?_of_mem hp
        exact HN.out i p hi))
      have EQ := hideIt (lib_names fun i x hi => hco.out i x (List.getElem?_eq_some_iff.1 hi).1 hi)
      clear hco hown
      by_cases h8 : cs.length ≤ 8
      rotate_left
      · have EP := hideIt (show libB cs = false by rw [← EQ.out, decide_eq_false h8, Bool.and_false])
        have h8' : decide ((cs.length : Int) ≤ 8) = false := decide_eq_false (by omega)
        clear h8
        go_wp2
        go_ret
        exact ⟨ret_bool EP.out.symm, GG.out⟩
      · have h8' : decide ((cs.length : Int) ≤ 8) = true := decide_eq_true (by omega)
        have EP := hideIt (show libB cs = pB (NamesP (cs.map (·.name))) by rw [← EQ.out, decide_eq_true h8, Bool.and_true])
        clear h8
        go_wp2_with fail
        refine (areNames_any _ RS.out).mono ?_
        rintro e w2 ⟨rfl, g2⟩
        obtain ⟨q, eq⟩ : ∃ q, q = pB (NamesP (cs.map (·.name))) := ⟨_, rfl⟩
        rw [← eq]
        have EQ2 := hideIt (EP.out.trans eq.symm)
        have G4 := hideIt (GG.out.trans g2)
        clear g2 eq
        go_wp2
        go_ret
        exact ⟨ret_bool EQ2.out.symm, G4.out⟩
end Go.Proofs.YtocahjbmnkadjaaGreatDoor
/-
  Contracts of CellNamed, the reference's and the program's.
-/
namespace Go.Proofs.YtocahjbmnkadjaaGreatDoor
open Go.RowKit
noncomputable def cellNmV (s : ByteArray) (cs : List CellD) : Int := if libB cs = true then cellI s cs else -1
end Go.Proofs.YtocahjbmnkadjaaGreatDoor
