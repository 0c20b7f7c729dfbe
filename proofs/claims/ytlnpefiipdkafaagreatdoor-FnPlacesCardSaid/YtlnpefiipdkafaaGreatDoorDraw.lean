/-
  The source of numbers that draws are made from: any numbers within their bounds.
-/
import Derived.Test.YtlnpefiipdkafaaGreatDoorGO
import Derived.Test.YtlnpefiipdkafaaGreatDoorGA
namespace Go.Proofs.YtlnpefiipdkafaaGreatDoor
open Go.RowKit

def RU8 (_ : World) (cs : List Value) (x : Int) : Prop := cs = [.int .u8 x] ∧ 0 ≤ x ∧ x ≤ 255
def RBytes : World → Value → List Int → Prop := RList 1 RU8
theorem RBytes.keep {w w' : World} {v : Value} {xs : List Int} (h : RBytes w v xs) (k : Keeps w w') : RBytes w' v xs := RList.keep h k fun _ _ h => h
/-- a source in block b, made behind w0 -/
def SrcAt (w0 w : World) (b : Nat) : Prop :=
  ∃ (v : Value) (xs : List Int) (p : Nat) (s : Int), RBytes w0 v xs ∧ Grows w0 w ∧ w0.heap.size ≤ b ∧ Blk w b 115 #[v, .int .i64 (p : Int), .int .i64 s] ∧ p ≤ xs.length ∧ 0 ≤ s ∧ s < 2147483647
theorem SrcAt.grows {w0 w w' : World} {b : Nat} (h : SrcAt w0 w b) (g : Grows w w') : SrcAt w0 w' b := by
  obtain ⟨v, xs, p, s, h1, h2, h3, h4, h5⟩ := h
  exact ⟨v, xs, p, s, h1, h2.trans g, h3, h4.grows g, h5⟩
theorem SrcAt.ge {w0 w : World} {b : Nat} (h : SrcAt w0 w b) : w0.heap.size ≤ b ∧ Grows w0 w ∧ b < w.heap.size := by
  obtain ⟨v, xs, p, s, h1, h2, h3, h4, h5⟩ := h
  exact ⟨h3, h2, h4.lt⟩
/-- a number was drawn: below n, the source goes on -/
def NextPost (w0 w : World) (b : Nat) (n : Int) (e : Ending) (w' : World) : Prop :=
  ∃ r : Int, e = .returned (.int .i64 r) ∧ 0 ≤ r ∧ (1 ≤ n → r < n) ∧ SrcAt w0 w' b ∧ Chg [b] w w'
set_option maxHeartbeats 2000000 in
theorem l01Next_any {w0 w : World} {b : Nat} (n : Int) (h : SrcAt w0 w b) :
    Calls Tryz.prog 67 #[.pointer (some ⟨b, 0, none⟩), .int .i64 n] w (NextPost w0 w b n) := by
  have HS := hideIt h
  obtain ⟨v, xs, p, s, h1, h2, h3, h4, h5, h6, h7⟩ := h
  have hl := RList.len h1
  obtain ⟨A, c, rfl, -, -, hx⟩ := RList.form h1
  have HX := hideIt hx
  have H1 := hideIt h1
  have G := hideIt h2
  have B := hideIt h4
  have k0 : w.cell? ⟨b, 0, none⟩ = some (.slice A xs.length c) := h4.cell 0
  have k1 : w.cell? ⟨b, 1, none⟩ = some (.int .i64 (p : Int)) := h4.cell 1
  have k2 : w.cell? ⟨b, 2, none⟩ = some (.int .i64 s) := h4.cell 2
  have kf := h4.frozen
  have kl := h4.lt
  have up : ∀ W : World, Chg [b] w W → Grows w0 W := fun W hc => h2.chg hc fun g hg => by simp at hg; omega
  have UP := hideIt up
  clear hx h1 h2 h4 up
  by_cases hn : n ≤ 1
  · go_enter Tryz.func67, Tryz.ntmps67
    go_wp2
    go_ret
    exact ⟨0, rfl, by omega, fun _ => by omega, HS.out, Chg.refl _ _⟩
  have hz : (n == 0) = false := by simp; omega
  by_cases hp : p < xs.length
  · obtain ⟨x, hx⟩ : ∃ x, xs[p]? = some x := ⟨_, List.getElem?_eq_getElem hp⟩
    obtain ⟨b2, o2, rfl, cs, hl1, hcs, hr, x1, x2⟩ := HX.out p x hx
    subst hr
    have lb2 := cell_lt (hcs 0 _ rfl)
    have kx : w.cell? ⟨b2, o2 + p, none⟩ = some (.int .u8 x) := G.out.keeps _ _ (by simpa using hcs 0 _ rfl)
    have nb : b2 ≠ b := by simp at lb2; omega
    have T1 : 0 ≤ x % n := Int.emod_nonneg x (by omega)
    have T2 : x % n < n := Int.emod_lt_of_pos x (by omega)
    clear hcs hl1 hx lb2
    by_cases h256 : n ≤ 256
    · have B1 := hideIt (B.out.set_ 1 (.int .i64 ((p : Int) + 1)))
      go_enter Tryz.func67, Tryz.ntmps67
      go_wp2
      go_quiet (fail)
      go_wp2
      go_quiet (fail)
      go_wp2
      go_ret
      exact ⟨_, rfl, T1, fun _ => T2, ⟨_, _, p + 1, s, H1.out, UP.out _ (by repeat (first | exact Chg.refl _ _ | refine Chg.drewN ?_ _ | refine Chg.drew ?_ | refine Chg.setCell ?_ (by simp) _)), h3, B1.out, by omega, by omega, by omega⟩, (by repeat (first | exact Chg.refl _ _ | refine Chg.drewN ?_ _ | refine Chg.drew ?_ | refine Chg.setCell ?_ (by simp) _))⟩
    · have B1 := hideIt (B.out.set_ 1 (.int .i64 ((p : Int) + 1)))
      have B2 := hideIt (B1.out.set_ 2 (.int .i64 ((s * 48271 + x + 1) % 2147483647)))
      have U1 : 0 ≤ (s * 48271 + x + 1) % 2147483647 := by omega
      have U2 : (s * 48271 + x + 1) % 2147483647 < 2147483647 := by omega
      have V1 : 0 ≤ (s * 48271 + x + 1) % 2147483647 % n := Int.emod_nonneg _ (by omega)
      have V2 : (s * 48271 + x + 1) % 2147483647 % n < n := Int.emod_lt_of_pos _ (by omega)
      go_enter Tryz.func67, Tryz.ntmps67
      go_wp2
      go_quiet (fail)
      go_wp2
      go_quiet (fail)
      go_wp2
      go_ret
      exact ⟨_, rfl, V1, fun _ => V2, ⟨_, _, p + 1, _, H1.out, UP.out _ (by repeat (first | exact Chg.refl _ _ | refine Chg.drewN ?_ _ | refine Chg.drew ?_ | refine Chg.setCell ?_ (by simp) _)), h3, B2.out, by omega, U1, U2⟩, (by repeat (first | exact Chg.refl _ _ | refine Chg.drewN ?_ _ | refine Chg.drew ?_ | refine Chg.setCell ?_ (by simp) _))⟩
  · have B2 := hideIt (B.out.set_ 2 (.int .i64 ((s * 48271 + 11) % 2147483647)))
    have U1 : 0 ≤ (s * 48271 + 11) % 2147483647 := by omega
    have U2 : (s * 48271 + 11) % 2147483647 < 2147483647 := by omega
    have D1 : 0 ≤ (s * 48271 + 11) % 2147483647 / 7 := by omega
    have V1 : 0 ≤ (s * 48271 + 11) % 2147483647 / 7 % n := Int.emod_nonneg _ (by omega)
    have V2 : (s * 48271 + 11) % 2147483647 / 7 % n < n := Int.emod_lt_of_pos _ (by omega)
    go_enter Tryz.func67, Tryz.ntmps67
    go_wp2
    go_quiet (fail)
    go_wp2
    go_ret
    exact ⟨_, rfl, V1, fun _ => V2, ⟨_, _, p, _, H1.out, UP.out _ (by repeat (first | exact Chg.refl _ _ | refine Chg.drewN ?_ _ | refine Chg.drew ?_ | refine Chg.setCell ?_ (by simp) _)), h3, B2.out, h5, U1, U2⟩, (by repeat (first | exact Chg.refl _ _ | refine Chg.drewN ?_ _ | refine Chg.drew ?_ | refine Chg.setCell ?_ (by simp) _))⟩
/-- a source was made -/
def FromPost (w : World) (e : Ending) (w' : World) : Prop := ∃ b : Nat, e = .returned (.pointer (some ⟨b, 0, none⟩)) ∧ SrcAt w w' b ∧ Grows w w'
set_option maxHeartbeats 2000000 in
theorem l01From_at {v : Value} {xs : List Int} {w0 w : World} (h : RBytes w0 v xs) (g0 : Grows w0 w) :
    Calls Tryz.prog 36 #[v] w fun e w' => ∃ b : Nat, e = .returned (.pointer (some ⟨b, 0, none⟩)) ∧ SrcAt w0 w' b ∧ w.heap.size ≤ b ∧ Grows w w' := by
  have gs := g0.size
  have G0 := hideIt g0
  clear g0
  have hl := RList.len h
  obtain ⟨A, c, rfl, -, -, hx⟩ := RList.form h
  have HX := hideIt hx
  have H1 := hideIt h
  clear hx h
  go_enter Tryz.func36, Tryz.ntmps36
  go_wp2
  go_loopw [4] (fun i wr => ∃ (k : Nat) (s : Int), k ≤ xs.length ∧ i = .int .i64 (k : Int) ∧ 0 ≤ s ∧ s < 2147483647 ∧ Grows w wr ∧ Blk wr w.heap.size 115 #[.slice A xs.length c, .int .i64 0, .int .i64 s]) (fun i _ => xs.length - (intOf i).toNat)
  case atStart => exact ⟨0, 12345, by omega, rfl, by omega, by omega, (Grows.refl w).alloc _, Blk.new w _ _⟩
  case round =>
    obtain ⟨k, s, hk, rfl, s1, s2, hg, hb⟩ := hrel
    have G := hideIt hg
    have B := hideIt hb
    have k0 : wr.cell? ⟨w.heap.size, 0, none⟩ = some (.slice A xs.length c) := hb.cell 0
    have k1 : wr.cell? ⟨w.heap.size, 1, none⟩ = some (.int .i64 0) := hb.cell 1
    have k2 : wr.cell? ⟨w.heap.size, 2, none⟩ = some (.int .i64 s) := hb.cell 2
    have kf := hb.frozen
    have kl := hb.lt
    clear hg hb
    by_cases hlt : k < xs.length
    · by_cases h64 : k < 64
      · obtain ⟨x, hx⟩ : ∃ x, xs[k]? = some x := ⟨_, List.getElem?_eq_getElem hlt⟩
        obtain ⟨b2, o2, rfl, cs, hl1, hcs, hr, x1, x2⟩ := HX.out k x hx
        subst hr
        have lb2 := cell_lt (hcs 0 _ rfl)
        simp at lb2
        have kx : wr.cell? ⟨b2, o2 + k, none⟩ = some (.int .u8 x) := (G0.out.trans G.out).keeps _ _ (by simpa using hcs 0 _ rfl)
        have nb : b2 ≠ w.heap.size := by omega
        have U1 : 0 ≤ (s * 31 + x) % 2147483647 := by omega
        have U2 : (s * 31 + x) % 2147483647 < 2147483647 := by omega
        have B1 := hideIt (B.out.set_ 2 (.int .i64 ((s * 31 + x) % 2147483647)))
        clear hcs hl1 hx
        go_wp2
        go_region
        all_goals go_wp2
        all_goals go_roundw
        case rel => exact ⟨k + 1, _, by omega, by go_num, U1, U2, by repeat (first | exact G.out | refine Grows.drew ?_ | refine Grows.setCell ?_ (by simp) _), B1.out⟩
        case measure => simp [intOf]; omega
      · go_wp2
        go_ret
        exact ⟨_, rfl, ⟨_, _, 0, s, H1.out, G0.out.trans G.out, gs, B.out, by omega, s1, s2⟩, Nat.le_refl _, G.out⟩
    · obtain rfl : k = xs.length := by omega
      go_wp2
      go_ret
      exact ⟨_, rfl, ⟨_, _, 0, s, H1.out, G0.out.trans G.out, gs, B.out, by omega, s1, s2⟩, Nat.le_refl _, G.out⟩
theorem l01From_any {v : Value} {xs : List Int} {w : World} (h : RBytes w v xs) : Calls Tryz.prog 36 #[v] w (FromPost w) :=
  (l01From_at h (Grows.refl w)).mono fun _ _ ⟨b, he, hs, _, hg⟩ => ⟨b, he, hs, hg⟩
end Go.Proofs.YtlnpefiipdkafaaGreatDoor
