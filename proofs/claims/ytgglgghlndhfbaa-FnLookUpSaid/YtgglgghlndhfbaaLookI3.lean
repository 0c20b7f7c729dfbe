/-
  Looking up a table: the program.
-/
import Derived.Test.YtgglgghlndhfbaaLookI2
namespace Go.Proofs.Ytgglgghlndhfbaa
open Go.RowKit

/-- the term of the program's sum -/
def iT (t : TableD) (rs cs : List (Nat × Int)) (p q : Nat) : Int :=
  t.values.getD ((rs.getD p (0, 0)).1 * t.loads.length + (cs.getD q (0, 0)).1) 0 * (rs.getD p (0, 0)).2 * (cs.getD q (0, 0)).2
theorem iT_sum (t : TableD) (i k : Nat) (a b c d : Int) :
    sumN (fun p => sumN (iT t (wl i a b) (wl k c d) p) (wl k c d).length) (wl i a b).length = sum4 t i k a b c d := by
  unfold wl sum4
  by_cases hb : b = 0 <;> by_cases hd : d = 0 <;> simp [hb, hd, sumN, iT]
  all_goals omega
theorem wl_len (i : Nat) (a b : Int) : 1 ≤ (wl i a b).length ∧ (wl i a b).length ≤ 2 := by
  unfold wl; split <;> simp
theorem wl_bd {xs : List Int} {y : Int} {i : Nat} {a b : Int} (hx : axB xs = true) (h : Wt xs y i a b) {p j : Nat} {z : Int} (hp : (wl i a b)[p]? = some (j, z)) : 0 ≤ z ∧ z ≤ 100000 ∧ j < xs.length := by
  obtain ⟨h1, h2, h3, h4, h5, h6⟩ := h.bd hx
  unfold wl at hp
  split at hp
  · match p, hp with
    | 0, hp => simp at hp; omega
  · match p, hp with
    | 0, hp => simp at hp; omega
    | 1, hp => simp at hp; omega
theorem iT_at {t : TableD} {rs cs : List (Nat × Int)} {p q ri ci : Nat} {ra ca : Int} (h1 : rs[p]? = some (ri, ra)) (h2 : cs[q]? = some (ci, ca)) :
    iT t rs cs p q = t.values.getD (ri * t.loads.length + ci) 0 * ra * ca := by
  simp [iT, List.getD, h1, h2]
theorem iT_bd {t : TableD} (ht : tabB t = true) {x y : Int} {i k : Nat} {a b c d : Int} (w1 : Wt t.slews x i a b) (w2 : Wt t.loads y k c d) (p q : Nat) (hp : p < (wl i a b).length) (hq : q < (wl k c d).length) :
    -10000000000000000 ≤ iT t (wl i a b) (wl k c d) p q ∧ iT t (wl i a b) (wl k c d) p q ≤ 10000000000000000 := by
  obtain ⟨hs, hl, -, -⟩ := tabB_parts ht
  obtain ⟨⟨ri, ra⟩, hr⟩ : ∃ r, (wl i a b)[p]? = some r := ⟨_, List.getElem?_eq_getElem hp⟩
  obtain ⟨⟨ci, ca⟩, hc⟩ : ∃ r, (wl k c d)[q]? = some r := ⟨_, List.getElem?_eq_getElem hq⟩
  rw [iT_at hr hc]
  obtain ⟨b1, b2, -⟩ := wl_bd hs w1 hr
  obtain ⟨b3, b4, -⟩ := wl_bd hl w2 hc
  exact (term_bd ht _ b1 b2 b3 b4).2
theorem idx_lt' {r n L i k : Nat} (hL : L = r * n) (hi : i < r) (hk : k < n) : i * n + k < L := by
  subst hL
  have := Nat.mul_le_mul_right n (show i + 1 ≤ r by omega)
  rw [Nat.succ_mul] at this
  omega
set_option maxHeartbeats 4000000 in
theorem lookUp_any {a1 a2 a3 : Value} {t : TableD} (sl ld m : Int) (w : World) (h : RTable w [a1, a2, a3] t) (ht : tabB t = true) :
    Calls Try.prog 40 #[.agg #[a1, a2, a3], .int .i64 sl, .int .i64 ld, .int .i64 m] w fun e w' => ∃ r : Int, e = .returned (.int .i64 r) ∧ LookV t sl ld m r ∧ Grows w w' := by
  obtain ⟨⟨A1, n1, rfl⟩, ⟨A2, n2, rfl⟩, ⟨A3, n3, rfl⟩⟩ := h.shape
  obtain ⟨hs, hl, hL, hv⟩ := tabB_parts ht
  have g0 := (Grows.refl w).alloc (.cells #[.slice A1 t.slews.length n1, .slice A2 t.loads.length n2, .slice A3 t.values.length n3] 26)
  have S := hideIt (Blk.new w 26 #[.slice A1 t.slews.length n1, .slice A2 t.loads.length n2, .slice A3 t.values.length n3])
  have H := hideIt (h.keep g0.keeps)
  have G := hideIt g0
  have HS := hideIt hs
  have HL := hideIt hl
  have HT := hideIt ht
  have HE := hideIt hL
  clear g0 h hs hl ht hL hv
  go_enter Try.func40, Try.ntmps40
  go_wp2_with fail
  refine (weights_any _ _ H.out.open_.1 HS.out).mono ?_
  rintro e u1 ⟨vr, i, a, b, rfl, w1, rr, g⟩
  replace S := hideIt (S.out.grows g)
  replace H := hideIt (H.out.keep g.keeps)
  replace G := hideIt (G.out.trans g)
  have W1 := hideIt w1
  have R1 := hideIt rr
  clear g w1 rr
  have c0 := S.out.cell 0
  have c1 := S.out.cell 1
  have c2 := S.out.cell 2
  have f0 := S.out.frozen
  simp at c0 c1 c2
  go_wp2_with fail
  refine (weights_any _ _ H.out.open_.2.1 HL.out).mono ?_
  rintro e u2 ⟨vc, k, c, d, rfl, w2, rc, g⟩
  replace S := hideIt (S.out.grows g)
  replace H := hideIt (H.out.keep g.keeps)
  replace G := hideIt (G.out.trans g)
  have W2 := hideIt w2
  have R2 := hideIt rc
  replace R1 := hideIt (R1.out.keep g.keeps fun _ _ h => h)
  clear g w2 rc c0 c1 c2 f0
  obtain ⟨AR, nR, rfl, -, -, hxr⟩ := RList.form R1.out
  obtain ⟨AC, nC, rfl, -, -, hxc⟩ := RList.form R2.out
  obtain ⟨AV, nV, e3, -, -, hxv⟩ := RList.form H.out.open_.2.2
  injection e3 with e3
  subst e3
  have HR := hideIt hxr
  have HC := hideIt hxc
  have HV := hideIt hxv
  clear hxr hxc hxv
  obtain ⟨ha1, ha2, hb1, hb2, hi1, hi2⟩ := W1.out.bd HS.out
  obtain ⟨hc1, hc2, hd1, hd2, hk1, hk2⟩ := W2.out.bd HL.out
  have l1 := axB_len HS.out
  have l2 := axB_len HL.out
  have lr := wl_len i a b
  have lc := wl_len k c d
  have WP := wprod ha1 ha2 hb1 hb2 hc1 hc2 hd1 hd2
  obtain ⟨rs, ers⟩ : ∃ rs, rs = wl i a b := ⟨_, rfl⟩
  obtain ⟨cs, ecs⟩ : ∃ cs, cs = wl k c d := ⟨_, rfl⟩
  rw [← ers] at lr HR
  rw [← ecs] at lc HC
  rw [← ers, ← ecs]
  have TB : Hid (∀ p q, p < rs.length → q < cs.length → -10000000000000000 ≤ iT t rs cs p q ∧ iT t rs cs p q ≤ 10000000000000000) := by subst ers ecs; exact hideIt (iT_bd HT.out W1.out W2.out)
  have BR : Hid (∀ (p j : Nat) (z : Int), rs[p]? = some (j, z) → 0 ≤ z ∧ z ≤ 100000 ∧ j < t.slews.length) := by subst ers; exact hideIt fun p j z => wl_bd HS.out W1.out
  have BC : Hid (∀ (p j : Nat) (z : Int), cs[p]? = some (j, z) → 0 ≤ z ∧ z ≤ 100000 ∧ j < t.loads.length) := by subst ecs; exact hideIt fun p j z => wl_bd HL.out W2.out
  have SUM : Hid (sumN (fun p => sumN (iT t rs cs p) cs.length) rs.length = sum4 t i k a b c d) := by subst ers ecs; exact hideIt (iT_sum t i k a b c d)
  clear ers ecs R1 R2
  have c0 := S.out.cell 0
  have c1 := S.out.cell 1
  have c2 := S.out.cell 2
  have f0 := S.out.frozen
  simp at c0 c1 c2
  go_wp2
  go_loopw [13, 34] (fun s u wr => ∃ p : Nat, p ≤ rs.length ∧ u = .int .i64 (p : Int) ∧ s = .int .i64 (sumN (fun p => sumN (iT t rs cs p) cs.length) p) ∧ Grows u2 wr) (fun _ u _ => rs.length - (intOf u).toNat)
  case atStart => exact ⟨0, by omega, rfl, rfl, Grows.refl _⟩
  case round =>
    obtain ⟨p, hp, rfl, rfl, hg⟩ := hrel
    have SB := sumN_bd (f := fun p => sumN (iT t rs cs p) cs.length) (B := 20000000000000000) p fun q hq => by
      have := sumN_bd (f := iT t rs cs q) (B := 10000000000000000) cs.length fun r hr => TB.out q r (by omega) hr
      have h1 : (cs.length : Int) * 10000000000000000 ≤ 20000000000000000 := by omega
      omega
    have SB2 : -40000000000000000 ≤ sumN (fun p => sumN (iT t rs cs p) cs.length) p ∧ sumN (fun p => sumN (iT t rs cs p) cs.length) p ≤ 40000000000000000 := by
      have h1 : (p : Int) * 20000000000000000 ≤ 40000000000000000 := by omega
      omega
    clear SB
    have HG := hideIt hg
    have bS := S.out.grows hg
    have k0 : wr.cell? ⟨w.heap.size, 0, none⟩ = some (.slice A1 t.slews.length n1) := bS.cell 0
    have k1 : wr.cell? ⟨w.heap.size, 1, none⟩ = some (.slice A2 t.loads.length n2) := bS.cell 1
    have k2 : wr.cell? ⟨w.heap.size, 2, none⟩ = some (.slice A3 t.values.length n3) := bS.cell 2
    have kf := bS.frozen
    have kl := bS.lt
    clear bS hg c0 c1 c2 f0
    by_cases hlt : p < rs.length
    · obtain ⟨⟨ri, ra⟩, hr⟩ : ∃ r, rs[p]? = some r := ⟨_, List.getElem?_eq_getElem hlt⟩
      obtain ⟨b1, o1, rfl, xs1, hl1, hcs1, hr1⟩ := HR.out p _ hr
      have hr1 : xs1 = [.int .i64 (ri : Int), .int .i64 ra] := hr1
      subst hr1
      have kr0 : wr.cell? ⟨b1, o1 + p * 2, none⟩ = some (.int .i64 (ri : Int)) := HG.out.keeps _ _ (by simpa using hcs1 0 _ rfl)
      have kr1 : wr.cell? ⟨b1, o1 + p * 2 + 1, none⟩ = some (.int .i64 ra) := HG.out.keeps _ _ (by simpa [Nat.add_assoc] using hcs1 1 _ rfl)
      obtain ⟨r1, r2, r3⟩ := BR.out p _ _ hr
      have RR := hideIt hr
      have BV := hideIt (Blk.new wr 73 #[.int .i64 (ri : Int), .int .i64 ra])
      have G2 := hideIt (HG.out.alloc (.cells #[.int .i64 (ri : Int), .int .i64 ra] 73))
      have S2 := hideIt (S.out.grows G2.out)
      clear hcs1 hl1 hr
      obtain ⟨wo, ewo⟩ : ∃ wo : World, wo = wr := ⟨_, rfl⟩
      subst ewo
      go_wp2
      go_loopw [13, 40] (fun s u wr => ∃ q : Nat, q ≤ cs.length ∧ u = .int .i64 (q : Int) ∧ s = .int .i64 (sumN (fun p => sumN (iT t rs cs p) cs.length) p + sumN (iT t rs cs p) q) ∧ Grows (wo.alloc (.cells #[.int .i64 (ri : Int), .int .i64 ra] 73)) wr) (fun _ u _ => cs.length - (intOf u).toNat)
      case atStart => exact ⟨0, by omega, rfl, by simp [sumN], Grows.refl _⟩
      case round =>
        obtain ⟨q, hq, rfl, rfl, hg⟩ := hrel
        have SB3 := sumN_bd (f := iT t rs cs p) (B := 10000000000000000) q fun r hr => TB.out p r hlt (by omega)
        have SB4 : -20000000000000000 ≤ sumN (iT t rs cs p) q ∧ sumN (iT t rs cs p) q ≤ 20000000000000000 := by
          have h1 : (q : Int) * 10000000000000000 ≤ 20000000000000000 := by omega
          omega
        clear SB3
        have HG2 := hideIt hg
        have bS := S2.out.grows hg
        have bV := BV.out.grows hg
        have k0 : wr.cell? ⟨w.heap.size, 0, none⟩ = some (.slice A1 t.slews.length n1) := bS.cell 0
        have k1 : wr.cell? ⟨w.heap.size, 1, none⟩ = some (.slice A2 t.loads.length n2) := bS.cell 1
        have k2 : wr.cell? ⟨w.heap.size, 2, none⟩ = some (.slice A3 t.values.length n3) := bS.cell 2
        have kl2 := bS.lt
        have kv0 : wr.cell? ⟨wo.heap.size, 0, none⟩ = some (.int .i64 (ri : Int)) := bV.cell 0
        have kv1 : wr.cell? ⟨wo.heap.size, 1, none⟩ = some (.int .i64 ra) := bV.cell 1
        have kvl := bV.lt
        obtain ⟨z, ez⟩ : ∃ z, z = sumN (fun p => sumN (iT t rs cs p) cs.length) p + sumN (iT t rs cs p) q := ⟨_, rfl⟩
        have zb : -100000000000000000 ≤ z ∧ z ≤ 100000000000000000 := by subst ez; constructor <;> omega
        rw [← ez]
        have EZ := hideIt ez
        clear SB4 ez bS bV hg
        by_cases hlq : q < cs.length
        · obtain ⟨⟨ci, ca⟩, hc⟩ : ∃ r, cs[q]? = some r := ⟨_, List.getElem?_eq_getElem hlq⟩
          obtain ⟨b2, o2, rfl, xs2, hl2, hcs2, hr2⟩ := HC.out q _ hc
          have hr2 : xs2 = [.int .i64 (ci : Int), .int .i64 ca] := hr2
          subst hr2
          have G3 := G2.out.trans HG2.out
          have kc0 : wr.cell? ⟨b2, o2 + q * 2, none⟩ = some (.int .i64 (ci : Int)) := G3.keeps _ _ (by simpa using hcs2 0 _ rfl)
          have kc1 : wr.cell? ⟨b2, o2 + q * 2 + 1, none⟩ = some (.int .i64 ca) := G3.keeps _ _ (by simpa [Nat.add_assoc] using hcs2 1 _ rfl)
          obtain ⟨d1, d2, d3⟩ := BC.out q _ _ hc
          obtain ⟨M, eM, hM⟩ : ∃ M : Nat, (ri : Int) * (t.loads.length : Int) = (M : Int) ∧ M = ri * t.loads.length := ⟨ri * t.loads.length, by rw [Int.natCast_mul], rfl⟩
          have bM : M ≤ 20 := by
            have := Nat.mul_le_mul (show ri ≤ 5 by omega) l2.2
            omega
          obtain ⟨N, eN, hN⟩ : ∃ N : Nat, (M : Int) + (ci : Int) = (N : Int) ∧ N = M + ci := ⟨M + ci, by omega, rfl⟩
          have hlt2 : N < t.values.length := by
            have := idx_lt' (i := ri) (k := ci) HE.out r3 d3
            omega
          obtain ⟨V, hV⟩ : ∃ V, t.values[N]? = some V := ⟨_, List.getElem?_eq_getElem hlt2⟩
          have et : iT t rs cs p q = V * ra * ca := by
            rw [iT_at RR.out hc, ← hM, ← hN, getD_of hV]
          have tb := term_bd HT.out N r1 r2 d1 d2
          rw [getD_of hV] at tb
          obtain ⟨⟨t1, t2⟩, t3, t4⟩ := tb
          obtain ⟨b3, o3, rfl, xs3, hl3, hcs3, hr3⟩ := HV.out N _ hV
          have hr3 : xs3 = [.int .i64 V] := hr3
          subst hr3
          have kV : wr.cell? ⟨b3, o3 + N, none⟩ = some (.int .i64 V) := G3.keeps _ _ (by simpa using hcs3 0 _ rfl)
          have lV := cell_lt kV
          simp at lV
          have ET := hideIt et
          have G4 := hideIt HG2.out
          clear hcs2 hl2 hc hcs3 hl3 hV et hM hN G3
          go_wp2
          go_quiet (fail)
          go_wp2
          go_roundw
          case rel => exact ⟨q + 1, by omega, by go_num, by have := EZ.out; have e2 := ET.out; simp only [sumN] at this ⊢; rw [e2]; congr 1 <;> omega, by first | exact (G4.out.alloc _).drewN _ | exact G4.out.alloc _⟩
          case measure => simp [intOf]; omega
        · obtain rfl : q = cs.length := by omega
          go_wp2
          go_roundw
          case rel => exact ⟨p + 1, by omega, by go_num, by have := EZ.out; simp only [sumN] at this ⊢; rw [this], G2.out.trans HG2.out⟩
          case measure => simp [intOf]; omega
    · obtain rfl : p = rs.length := by omega
      rw [SUM.out] at SB2 ⊢
      have RT := hideIt (show LookV t sl ld m (rdv (sum4 t i k a b c d) ((a + b) * (c + d)) m) from ⟨i, a, b, k, c, d, W1.out, W2.out, rfl⟩)
      have GG := hideIt (G.out.trans HG.out)
      clear hlt
      go_wp2_with (go_at_call 49; refine (divide_any _ _ _ _ (by omega) (by omega) (by omega)).mono ?_; rintro e w' ⟨rfl, nq, rfl⟩)
      go_ret
      exact ⟨_, rfl, RT.out, GG.out.drewN _⟩
end Go.Proofs.Ytgglgghlndhfbaa
