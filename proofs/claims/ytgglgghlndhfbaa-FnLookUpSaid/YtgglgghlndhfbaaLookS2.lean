/-
  Looking up a table: the reference.
-/
import Derived.Test.YtgglgghlndhfbaaLookS
namespace Go.Proofs.Ytgglgghlndhfbaa
open Go.RowKit

/-- the term of the reference's sum -/
def sT (t : TableD) (i k : Nat) (a b c d : Int) (u v : Nat) : Int :=
  (if u = 1 then b else a) * (if v = 0 then c else d) * t.values.getD ((i + u) * t.loads.length + (k + v)) 0
theorem sT_sum (t : TableD) (i k : Nat) (a b c d : Int) : sumN (fun u => sumN (sT t i k a b c d u) 2) 2 = sum4 t i k a b c d := by
  simp only [sumN, sT, sum4, if_pos, Nat.zero_ne_one, Nat.one_ne_zero, Int.zero_add, Nat.add_zero, ite_false]
  have e : ∀ x y z : Int, x * y * z = z * x * y := fun x y z => by rw [Int.mul_comm (x * y) z, Int.mul_assoc]
  rw [e a c, e a d, e b c, e b d]
def uW (a b : Int) (u : Nat) : Int := if u = 1 then b else a
def vW (c d : Int) (v : Nat) : Int := if v = 0 then c else d
theorem w_bd {x y : Int} (h1 : 0 ≤ x) (h2 : x ≤ 100000) (h3 : 0 ≤ y) (h4 : y ≤ 100000) : 0 ≤ x * y ∧ x * y ≤ 10000000000 := by
  have m := mulB (x := x) (y := y) (X := 100000) (Y := 100000) (by omega) h2 h3 h4 (by decide)
  have := Int.mul_nonneg h1 h3
  omega
theorem sT_bd {t : TableD} (ht : tabB t = true) {i k : Nat} {a b c d : Int} (h1 : 1 ≤ a) (h2 : a ≤ 100000) (h3 : 0 ≤ b) (h4 : b ≤ 100000) (h5 : 1 ≤ c) (h6 : c ≤ 100000) (h7 : 0 ≤ d) (h8 : d ≤ 100000) (u v : Nat) :
    -10000000000000000 ≤ sT t i k a b c d u v ∧ sT t i k a b c d u v ≤ 10000000000000000 := by
  unfold sT
  obtain ⟨v1, v2⟩ := val_bd ht ((i + u) * t.loads.length + (k + v))
  have w : 0 ≤ (if u = 1 then b else a) * (if v = 0 then c else d) ∧ (if u = 1 then b else a) * (if v = 0 then c else d) ≤ 10000000000 :=
    w_bd (by split <;> omega) (by split <;> omega) (by split <;> omega) (by split <;> omega)
  have m := mulB (x := t.values.getD ((i + u) * t.loads.length + (k + v)) 0) (X := 1000000) v1 v2 w.1 w.2 (by decide)
  rw [Int.mul_comm (t.values.getD _ 0) _] at m
  omega
/-- a place in the table -/
theorem idx_lt {r n L i k : Nat} (hL : L = r * n) (hi : i < r) (hk : k < n) : i * n + k < L := by
  subst hL
  have := Nat.mul_le_mul_right n (show i + 1 ≤ r by omega)
  rw [Nat.succ_mul] at this
  omega
theorem idx_bd {i n : Nat} (hi : i ≤ 4) (hn : n ≤ 4) : 0 ≤ (i : Int) * (n : Int) ∧ (i : Int) * (n : Int) ≤ 16 := prod_bd hi hn
set_option maxHeartbeats 4000000 in
theorem l02Look_any {a1 a2 a3 : Value} {t : TableD} (sl ld m : Int) (w : World) (h : RTable w [a1, a2, a3] t) (ht : tabB t = true) :
    Calls Try.prog 42 #[.agg #[a1, a2, a3], .int .i64 sl, .int .i64 ld, .int .i64 m] w fun e w' => ∃ r : Int, e = .returned (.int .i64 r) ∧ LookV t sl ld m r ∧ Grows w w' := by
  obtain ⟨⟨A1, n1, rfl⟩, ⟨A2, n2, rfl⟩, ⟨A3, n3, rfl⟩⟩ := h.shape
  obtain ⟨hs, hl, hL, hv⟩ := tabB_parts ht
  have g0 := (Grows.refl w).alloc (.cells #[.slice A1 t.slews.length n1, .slice A2 t.loads.length n2, .slice A3 t.values.length n3] 26)
  have S := hideIt (Blk.new w 26 #[.slice A1 t.slews.length n1, .slice A2 t.loads.length n2, .slice A3 t.values.length n3])
  have H := hideIt (h.keep g0.keeps)
  have G := hideIt g0
  have HS := hideIt hs
  have HL := hideIt hl
  have HT := hideIt ht
  have HE := hideIt hL
  clear g0 h hs hl ht hL hv
  go_enter Try.func42, Try.ntmps42
  go_wp2_with fail
  refine (l02Weights_any _ _ H.out.open_.1 HS.out).mono ?_
  rintro e u1 ⟨i, a, b, rfl, w1, g⟩
  replace S := hideIt (S.out.grows g)
  replace H := hideIt (H.out.keep g.keeps)
  replace G := hideIt (G.out.trans g)
  have W1 := hideIt w1
  clear g w1
  have c0 := S.out.cell 0
  have c1 := S.out.cell 1
  have c2 := S.out.cell 2
  have f0 := S.out.frozen
  simp at c0 c1 c2
  go_wp2_with fail
  refine (l02Weights_any _ _ H.out.open_.2.1 HL.out).mono ?_
  rintro e u2 ⟨k, c, d, rfl, w2, g⟩
  replace S := hideIt (S.out.grows g)
  replace H := hideIt (H.out.keep g.keeps)
  replace G := hideIt (G.out.trans g)
  have W2 := hideIt w2
  clear g w2 c0 c1 c2 f0
  have c0 := S.out.cell 0
  have c1 := S.out.cell 1
  have c2 := S.out.cell 2
  have f0 := S.out.frozen
  simp at c0 c1 c2
  obtain ⟨ha1, ha2, hb1, hb2, hi1, hi2⟩ := W1.out.bd HS.out
  obtain ⟨hc1, hc2, hd1, hd2, hk1, hk2⟩ := W2.out.bd HL.out
  have l1 := axB_len HS.out
  have l2 := axB_len HL.out
  obtain ⟨A, cp, e3, -, -, hx⟩ := RList.form H.out.open_.2.2
  injection e3 with e3
  have HX := hideIt hx
  clear hx
  have WP := wprod ha1 ha2 hb1 hb2 hc1 hc2 hd1 hd2
  go_wp2
  go_loop [16, 17, 18, 19] (fun s u _ _ => ∃ p : Nat, p ≤ 2 ∧ u = .int .i64 (p : Int) ∧ s = .int .i64 (sumN (fun u => sumN (sT t i k a b c d u) 2) p)) (fun _ u _ _ => 2 - (intOf u).toNat)
  case atStart => exact ⟨0, by omega, rfl, rfl⟩
  case round =>
    obtain ⟨p, hp, rfl, rfl⟩ := hrel
    have SB := hideIt (sumN_bd (f := fun u => sumN (sT t i k a b c d u) 2) (B := 20000000000000000) p fun q _ => by
      have := sumN_bd (f := sT t i k a b c d q) (B := 10000000000000000) 2 fun r _ => sT_bd HT.out ha1 ha2 hb1 hb2 hc1 hc2 hd1 hd2 q r
      omega)
    by_cases hlt : p < 2
    · go_wp2
      go_loop [16, 18, 19] (fun s v _ => ∃ q : Nat, q ≤ 2 ∧ v = .int .i64 (q : Int) ∧ s = .int .i64 (sumN (fun u => sumN (sT t i k a b c d u) 2) p + sumN (sT t i k a b c d p) q)) (fun _ v _ => 2 - (intOf v).toNat)
      case atStart => exact ⟨0, by omega, rfl, by simp [sumN]⟩
      case round =>
        obtain ⟨q, hq, rfl, rfl⟩ := hrel
        have SB2 := sumN_bd (f := sT t i k a b c d p) (B := 10000000000000000) q fun r _ => sT_bd HT.out ha1 ha2 hb1 hb2 hc1 hc2 hd1 hd2 p r
        have SB1 := SB.out
        obtain ⟨z, ez⟩ : ∃ z, z = sumN (fun u => sumN (sT t i k a b c d u) 2) p + sumN (sT t i k a b c d p) q := ⟨_, rfl⟩
        have zb : -100000000000000000 ≤ z ∧ z ≤ 100000000000000000 := by subst ez; constructor <;> omega
        rw [← ez]
        have EZ := hideIt ez
        clear SB1 SB2 ez
        by_cases hq2 : q < 2
        · have hp01 : p = 0 ∨ p = 1 := by omega
          have hq01 : q = 0 ∨ q = 1 := by omega
          have TB := sT_bd (i := i) (k := k) HT.out ha1 ha2 hb1 hb2 hc1 hc2 hd1 hd2 p q
          rcases hp01 with rfl | rfl <;> rcases hq01 with rfl | rfl
          · have wb := w_bd (x := a) (y := c) (by omega) (by omega) (by omega) (by omega)
            obtain ⟨M, eM, hM⟩ : ∃ M : Nat, (i : Int) * (t.loads.length : Int) = (M : Int) ∧ M = (i + 0) * t.loads.length := ⟨(i + 0) * t.loads.length, by rw [Int.natCast_mul]; rfl, rfl⟩
            have bM : M ≤ 20 := by
              have := Nat.mul_le_mul (show i + 0 ≤ 5 by omega) l2.2
              omega
            obtain ⟨N, eN, hN⟩ : ∃ N : Nat, (M : Int) + (k : Int) = (N : Int) ∧ N = M + k := ⟨M + k, by omega, rfl⟩
            have et : sT t i k a b c d 0 0 = a * c * t.values.getD (N + 0) 0 := by
              rw [hN, hM, Nat.add_assoc]; rfl
            rw [et] at TB
            by_cases hw : 0 < a * c
            · have hx0 : 0 < a := by
                rcases Int.lt_or_le 0 a with h | h
                · exact h
                · have e0 : a = 0 := by omega
                  rw [e0, Int.zero_mul] at hw
                  omega
              have hy0 : 0 < c := by
                rcases Int.lt_or_le 0 c with h | h
                · exact h
                · have e0 : c = 0 := by omega
                  rw [e0, Int.mul_zero] at hw
                  omega
              have hlt2 : N + 0 < t.values.length := by
                have := idx_lt (i := i + 0) (k := k + 0) HE.out (by omega) (by omega)
                omega
              obtain ⟨V, hV⟩ : ∃ V, t.values[N + 0]? = some V := ⟨_, List.getElem?_eq_getElem hlt2⟩
              rw [getD_of hV] at TB et
              obtain ⟨b0, off, rfl, cs, hcl, hcs, hr⟩ := HX.out _ V hV
              have hr : cs = [.int .i64 V] := hr
              subst hr
              have kV : u2.cell? ⟨b0, off + N, none⟩ = some (.int .i64 V) := by simpa using hcs 0 _ rfl
              clear hcs hcl hV
              have ET := hideIt et
              clear et hM hN
              go_wp2
              go_round
              case rel => exact ⟨1, by omega, by go_num, by have := EZ.out; have e2 := ET.out; simp only [sumN] at this ⊢; rw [e2]; congr 1 <;> omega⟩
              case measure => simp [intOf]
            · have ew : a * c = 0 := by omega
              rw [ew, Int.zero_mul] at et
              have ET := hideIt et
              clear et hM hN TB
              go_wp2
              go_round
              case rel => exact ⟨1, by omega, by go_num, by have := EZ.out; have e2 := ET.out; simp only [sumN] at this ⊢; rw [e2]; congr 1 <;> omega⟩
              case measure => simp [intOf]
          · have wb := w_bd (x := a) (y := d) (by omega) (by omega) (by omega) (by omega)
            obtain ⟨M, eM, hM⟩ : ∃ M : Nat, (i : Int) * (t.loads.length : Int) = (M : Int) ∧ M = (i + 0) * t.loads.length := ⟨(i + 0) * t.loads.length, by rw [Int.natCast_mul]; rfl, rfl⟩
            have bM : M ≤ 20 := by
              have := Nat.mul_le_mul (show i + 0 ≤ 5 by omega) l2.2
              omega
            obtain ⟨N, eN, hN⟩ : ∃ N : Nat, (M : Int) + (k : Int) = (N : Int) ∧ N = M + k := ⟨M + k, by omega, rfl⟩
            have et : sT t i k a b c d 0 1 = a * d * t.values.getD (N + 1) 0 := by
              rw [hN, hM, Nat.add_assoc]; rfl
            rw [et] at TB
            by_cases hw : 0 < a * d
            · have hx0 : 0 < a := by
                rcases Int.lt_or_le 0 a with h | h
                · exact h
                · have e0 : a = 0 := by omega
                  rw [e0, Int.zero_mul] at hw
                  omega
              have hy0 : 0 < d := by
                rcases Int.lt_or_le 0 d with h | h
                · exact h
                · have e0 : d = 0 := by omega
                  rw [e0, Int.mul_zero] at hw
                  omega
              have hlt2 : N + 1 < t.values.length := by
                have := idx_lt (i := i + 0) (k := k + 1) HE.out (by omega) (by omega)
                omega
              obtain ⟨V, hV⟩ : ∃ V, t.values[N + 1]? = some V := ⟨_, List.getElem?_eq_getElem hlt2⟩
              rw [getD_of hV] at TB et
              obtain ⟨b0, off, rfl, cs, hcl, hcs, hr⟩ := HX.out _ V hV
              have hr : cs = [.int .i64 V] := hr
              subst hr
              have kV : u2.cell? ⟨b0, off + (N + 1), none⟩ = some (.int .i64 V) := by simpa using hcs 0 _ rfl
              clear hcs hcl hV
              have ET := hideIt et
              clear et hM hN
              go_wp2
              go_round
              case rel => exact ⟨2, by omega, by go_num, by have := EZ.out; have e2 := ET.out; simp only [sumN] at this ⊢; rw [e2]; congr 1 <;> omega⟩
              case measure => simp [intOf]
            · have ew : a * d = 0 := by omega
              rw [ew, Int.zero_mul] at et
              have ET := hideIt et
              clear et hM hN TB
              go_wp2
              go_round
              case rel => exact ⟨2, by omega, by go_num, by have := EZ.out; have e2 := ET.out; simp only [sumN] at this ⊢; rw [e2]; congr 1 <;> omega⟩
              case measure => simp [intOf]
          · have wb := w_bd (x := b) (y := c) (by omega) (by omega) (by omega) (by omega)
            obtain ⟨M, eM, hM⟩ : ∃ M : Nat, ((i : Int) + 1) * (t.loads.length : Int) = (M : Int) ∧ M = (i + 1) * t.loads.length := ⟨(i + 1) * t.loads.length, by rw [Int.natCast_mul]; rfl, rfl⟩
            have bM : M ≤ 20 := by
              have := Nat.mul_le_mul (show i + 1 ≤ 5 by omega) l2.2
              omega
            obtain ⟨N, eN, hN⟩ : ∃ N : Nat, (M : Int) + (k : Int) = (N : Int) ∧ N = M + k := ⟨M + k, by omega, rfl⟩
            have et : sT t i k a b c d 1 0 = b * c * t.values.getD (N + 0) 0 := by
              rw [hN, hM, Nat.add_assoc]; rfl
            rw [et] at TB
            by_cases hw : 0 < b * c
            · have hx0 : 0 < b := by
                rcases Int.lt_or_le 0 b with h | h
                · exact h
                · have e0 : b = 0 := by omega
                  rw [e0, Int.zero_mul] at hw
                  omega
              have hy0 : 0 < c := by
                rcases Int.lt_or_le 0 c with h | h
                · exact h
                · have e0 : c = 0 := by omega
                  rw [e0, Int.mul_zero] at hw
                  omega
              have hlt2 : N + 0 < t.values.length := by
                have := idx_lt (i := i + 1) (k := k + 0) HE.out (by omega) (by omega)
                omega
              obtain ⟨V, hV⟩ : ∃ V, t.values[N + 0]? = some V := ⟨_, List.getElem?_eq_getElem hlt2⟩
              rw [getD_of hV] at TB et
              obtain ⟨b0, off, rfl, cs, hcl, hcs, hr⟩ := HX.out _ V hV
              have hr : cs = [.int .i64 V] := hr
              subst hr
              have kV : u2.cell? ⟨b0, off + N, none⟩ = some (.int .i64 V) := by simpa using hcs 0 _ rfl
              clear hcs hcl hV
              have ET := hideIt et
              clear et hM hN
              go_wp2
              go_round
              case rel => exact ⟨1, by omega, by go_num, by have := EZ.out; have e2 := ET.out; simp only [sumN] at this ⊢; rw [e2]; congr 1 <;> omega⟩
              case measure => simp [intOf]
            · have ew : b * c = 0 := by omega
              rw [ew, Int.zero_mul] at et
              have ET := hideIt et
              clear et hM hN TB
              go_wp2
              go_round
              case rel => exact ⟨1, by omega, by go_num, by have := EZ.out; have e2 := ET.out; simp only [sumN] at this ⊢; rw [e2]; congr 1 <;> omega⟩
              case measure => simp [intOf]
          · have wb := w_bd (x := b) (y := d) (by omega) (by omega) (by omega) (by omega)
            obtain ⟨M, eM, hM⟩ : ∃ M : Nat, ((i : Int) + 1) * (t.loads.length : Int) = (M : Int) ∧ M = (i + 1) * t.loads.length := ⟨(i + 1) * t.loads.length, by rw [Int.natCast_mul]; rfl, rfl⟩
            have bM : M ≤ 20 := by
              have := Nat.mul_le_mul (show i + 1 ≤ 5 by omega) l2.2
              omega
            obtain ⟨N, eN, hN⟩ : ∃ N : Nat, (M : Int) + (k : Int) = (N : Int) ∧ N = M + k := ⟨M + k, by omega, rfl⟩
            have et : sT t i k a b c d 1 1 = b * d * t.values.getD (N + 1) 0 := by
              rw [hN, hM, Nat.add_assoc]; rfl
            rw [et] at TB
            by_cases hw : 0 < b * d
            · have hx0 : 0 < b := by
                rcases Int.lt_or_le 0 b with h | h
                · exact h
                · have e0 : b = 0 := by omega
                  rw [e0, Int.zero_mul] at hw
                  omega
              have hy0 : 0 < d := by
                rcases Int.lt_or_le 0 d with h | h
                · exact h
                · have e0 : d = 0 := by omega
                  rw [e0, Int.mul_zero] at hw
                  omega
              have hlt2 : N + 1 < t.values.length := by
                have := idx_lt (i := i + 1) (k := k + 1) HE.out (by omega) (by omega)
                omega
              obtain ⟨V, hV⟩ : ∃ V, t.values[N + 1]? = some V := ⟨_, List.getElem?_eq_getElem hlt2⟩
              rw [getD_of hV] at TB et
              obtain ⟨b0, off, rfl, cs, hcl, hcs, hr⟩ := HX.out _ V hV
              have hr : cs = [.int .i64 V] := hr
              subst hr
              have kV : u2.cell? ⟨b0, off + (N + 1), none⟩ = some (.int .i64 V) := by simpa using hcs 0 _ rfl
              clear hcs hcl hV
              have ET := hideIt et
              clear et hM hN
              go_wp2
              go_round
              case rel => exact ⟨2, by omega, by go_num, by have := EZ.out; have e2 := ET.out; simp only [sumN] at this ⊢; rw [e2]; congr 1 <;> omega⟩
              case measure => simp [intOf]
            · have ew : b * d = 0 := by omega
              rw [ew, Int.zero_mul] at et
              have ET := hideIt et
              clear et hM hN TB
              go_wp2
              go_round
              case rel => exact ⟨2, by omega, by go_num, by have := EZ.out; have e2 := ET.out; simp only [sumN] at this ⊢; rw [e2]; congr 1 <;> omega⟩
              case measure => simp [intOf]
        · have hq3 : q = 2 := by omega
          subst hq3
          go_wp2
          go_round
          case rel => exact ⟨p + 1, by omega, by go_num, by have := EZ.out; simp only [sumN] at this ⊢; rw [this]⟩
          case measure => simp [intOf]; omega
    · have hp2 : p = 2 := by omega
      subst hp2
      rw [sT_sum]
      have SB3 := SB.out
      rw [sT_sum] at SB3
      have RT := hideIt (show LookV t sl ld m (rdv (sum4 t i k a b c d) ((a + b) * (c + d)) m) from ⟨i, a, b, k, c, d, W1.out, W2.out, rfl⟩)
      go_wp2_with (go_at_call 27; refine (l01Div_any _ _ _ _ (by omega) (by omega) (by omega)).mono ?_; rintro e w' ⟨rfl, rfl⟩)
      go_ret
      exact ⟨_, rfl, RT.out, G.out⟩
end Go.Proofs.Ytgglgghlndhfbaa
