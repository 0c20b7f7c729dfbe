/-
  Contract of the reference's test of pins.
-/
import Derived.Test.YtcaklodecejkhaaDoorCellM
namespace Go.Proofs.YtcaklodecejkhaaDoor
open Go.RowKit
/-- the pins' answer -/
def PinsPost (ps : List PinD) (w : World) (e : Ending) (w' : World) : Prop :=
  ∃ c : Int, e = .returned (.tuple #[.int .i64 c, .bool (pB (PinsP ps))]) ∧ (PinsP ps → c = (clkN ps ps.length : Int)) ∧ Grows w w'
set_option maxHeartbeats 4000000 in
theorem l03Pins_any {v0 v1 v2 v3 v4 v5 v6 : Value} {x : CellD} (w : World) (h : RCell w [v0, v1, v2, v3, v4, v5, v6] x) :
    Calls Tryd.prog 29 #[.agg #[v0, v1, v2, v3, v4, v5, v6]] w (PinsPost x.pins w) := by
  obtain ⟨rfl, rfl, hp, ha, ht, rfl, rfl, -⟩ := h.parts
  have hl := RList.len hp
  obtain ⟨A, n0, rfl, -, -, hx⟩ := RList.form hp
  have S := hideIt (Blk.new w 32 #[.string x.name, .int .i64 x.kind, .slice A x.pins.length n0, v3, v4, .int .i64 x.leak, .int .i64 x.energy])
  have G := hideIt ((Grows.refl w).alloc (.cells #[.string x.name, .int .i64 x.kind, .slice A x.pins.length n0, v3, v4, .int .i64 x.leak, .int .i64 x.energy] 32))
  have HX := hideIt hx
  have HN := hideIt (fun (i : Nat) (p : PinD) (hi : x.pins[i]? = some p) => (by obtain ⟨b, off, e, cs, hl1, hcs, hr⟩ := hx i p hi; exact hr.2 : p.name.size ≤ maxLen))
  clear hx hp ha ht h
  by_cases hn : 2 ≤ x.pins.length ∧ x.pins.length ≤ 5
  rotate_left
  · have EP := hideIt (pB_false (p := PinsP x.pins) fun h => hn h.1)
    have hno : ¬ PinsP x.pins := fun h => hn h.1
    have HNO := hideIt hno
    clear hno
    by_cases h2 : x.pins.length < 2
    · go_enter Tryd.func29, Tryd.ntmps29
      go_wp2
      go_ret2
      exact ⟨0, by rw [EP.out]; rfl, fun h => absurd h HNO.out, G.out⟩
    · have h5 : 5 < x.pins.length := by omega
      go_enter Tryd.func29, Tryd.ntmps29
      go_wp2
      go_ret2
      exact ⟨0, by rw [EP.out]; rfl, fun h => absurd h HNO.out, G.out⟩
  obtain ⟨n2, n5⟩ := hn
  have c2 : (w.alloc (.cells #[.string x.name, .int .i64 x.kind, .slice A x.pins.length n0, v3, v4, .int .i64 x.leak, .int .i64 x.energy] 32)).cell? ⟨w.heap.size, 2, none⟩ = some (.slice A x.pins.length n0) := S.out.cell 2
  go_enter Tryd.func29, Tryd.ntmps29
  go_wp2
  go_loopw [5, 6, 8] (fun c i _ wr => ∃ k : Nat, k ≤ x.pins.length ∧ i = .int .i64 (k : Int) ∧ c = .int .i64 (clkN x.pins k : Int) ∧ Hid (∀ (j : Nat) (p : PinD), j < k → x.pins[j]? = some p → PinOk x.pins.length j p ∧ ∀ (i : Nat) (q : PinD), i < j → x.pins[i]? = some q → ¬ q.name = p.name) ∧ Grows (w.alloc (.cells #[.string x.name, .int .i64 x.kind, .slice A x.pins.length n0, v3, v4, .int .i64 x.leak, .int .i64 x.energy] 32)) wr) (fun _ i _ _ => x.pins.length - (intOf i).toNat)
  case atStart => exact ⟨0, by omega, rfl, rfl, fun j p hj => absurd hj (by omega), Grows.refl _⟩
  case round =>
    obtain ⟨k, hk, rfl, rfl, hco, hg⟩ := hrel
    have kS : wr.cell? ⟨w.heap.size, 2, none⟩ = some (.slice A x.pins.length n0) := (S.out.grows hg).cell 2
    have kl : w.heap.size < wr.heap.size := (S.out.grows hg).lt
    have HG := hideIt hg
    have cl := clkN_le x.pins k
    clear hg
    by_cases hlt : k < x.pins.length
    · obtain ⟨p, hp⟩ : ∃ p, x.pins[k]? = some p := ⟨_, List.getElem?_eq_getElem hlt⟩
      obtain ⟨b, off, rfl, cs, hl1, hcs, hr⟩ := HX.out k p hp
      obtain ⟨d0, d1, d2, d3, rfl⟩ := list4 hl1
      obtain ⟨rfl, rfl, rfl, rfl, -⟩ := hr.parts
      have lift := (G.out.trans HG.out).keeps
      have kp0 : wr.cell? ⟨b, off + k * 4, none⟩ = some (.string p.name) := lift _ _ (by simpa using hcs 0 _ rfl)
      have kp1 : wr.cell? ⟨b, off + k * 4 + 1, none⟩ = some (.int .i64 p.dir) := lift _ _ (by simpa [Nat.add_assoc] using hcs 1 _ rfl)
      have kp2 : wr.cell? ⟨b, off + k * 4 + 2, none⟩ = some (.int .i64 p.cap) := lift _ _ (by simpa [Nat.add_assoc] using hcs 2 _ rfl)
      have kp3 : wr.cell? ⟨b, off + k * 4 + 3, none⟩ = some (.bool p.clock) := lift _ _ (by simpa [Nat.add_assoc] using hcs 3 _ rfl)
      have P1 := hideIt hp
      clear hcs hl1 hr hp lift
      have BV := hideIt (Blk.new wr 80 #[.string p.name, .int .i64 p.dir, .int .i64 p.cap, .bool p.clock])
      obtain ⟨wo, ewo⟩ : ∃ wo : World, wo = wr := ⟨_, rfl⟩
      subst ewo
      go_wp2
      go_loopw [8] (fun i wr => ∃ q : Nat, q ≤ k ∧ i = .int .i64 (q : Int) ∧ Hid (∀ (j : Nat) (r : PinD), j < q → x.pins[j]? = some r → ¬ r.name = p.name) ∧ Grows (wo.alloc (.cells #[.string p.name, .int .i64 p.dir, .int .i64 p.cap, .bool p.clock] 80)) wr) (fun i _ => k - (intOf i).toNat)
      case atStart => exact ⟨0, by omega, rfl, fun j r hj => absurd hj (by omega), Grows.refl _⟩
      case round =>
        obtain ⟨q, hq, rfl, hne, hg2⟩ := hrel
        have HG2 := hideIt hg2
        have gg := (hideIt ((Grows.refl wo).alloc (.cells #[.string p.name, .int .i64 p.dir, .int .i64 p.cap, .bool p.clock] 80))).out.trans hg2
        have kS : wr.cell? ⟨w.heap.size, 2, none⟩ = some (.slice (some ⟨b, off, none⟩) x.pins.length n0) := (S.out.grows (HG.out.trans gg)).cell 2
        have bV := BV.out.grows hg2
        have v0 : wr.cell? ⟨wo.heap.size, 0, none⟩ = some (.string p.name) := bV.cell 0
        have v1 : wr.cell? ⟨wo.heap.size, 1, none⟩ = some (.int .i64 p.dir) := bV.cell 1
        have v2 : wr.cell? ⟨wo.heap.size, 2, none⟩ = some (.int .i64 p.cap) := bV.cell 2
        have v3' : wr.cell? ⟨wo.heap.size, 3, none⟩ = some (.bool p.clock) := bV.cell 3
        have lV := bV.lt
        have lS : w.heap.size < wr.heap.size := (S.out.grows (HG.out.trans gg)).lt
        have GA := hideIt (G.out.trans (HG.out.trans gg))
        have GB := hideIt (HG.out.trans gg)
        clear bV hg2 gg kp0 kp1 kp2 kp3
        by_cases hlq : q < k
        · obtain ⟨r, hr⟩ : ∃ r, x.pins[q]? = some r := ⟨_, List.getElem?_eq_getElem (by omega)⟩
          obtain ⟨b', off', e, cs, hl1, hcs, hrr⟩ := HX.out q r hr
          injection e with e
          injection e with e1 e2
          subst e1 e2
          obtain ⟨d0, d1, d2, d3, rfl⟩ := list4 hl1
          obtain ⟨rfl, rfl, rfl, rfl, -⟩ := hrr.parts
          have kq : wr.cell? ⟨b, off + q * 4, none⟩ = some (.string r.name) := GA.out.keeps _ _ (by simpa using hcs 0 _ rfl)
          have Q1 := hideIt hr
          clear hcs hl1 hrr hr
          by_cases he : r.name = p.name
          · have NO : Hid (¬ PinsP x.pins) := hideIt fun h => h.2.2 q k r p hlq Q1.out P1.out he
            have EP := hideIt (pB_false NO.out)
            have he1 : (r.name.toList == p.name.toList) = true := by rw [he]; simp
            go_wp2
            go_quiet (fail)
            go_wp2
            go_ret2
            exact ⟨0, by rw [EP.out]; rfl, fun h => absurd h NO.out, GA.out.drewN _⟩
          · have he1 := strNe he
            have HE := hideIt he
            clear he
            go_wp2
            go_quiet (fail)
            go_wp2
            go_roundw
            case rel => exact ⟨q + 1, by omega, by go_num, fun j s hj hs => by
              by_cases ej : j = q
              · subst ej
                rw [Q1.out] at hs
                injection hs with hs
                rw [← hs]
                exact HE.out
              · exact hne.out j s (by omega) hs, HG2.out.drewN _⟩
            case measure => simp [intOf]; omega
        · obtain rfl : q = k := by omega
          cases hnm : nameB p.name
          · have NO : Hid (¬ PinsP x.pins) := hideIt fun h => by have := (h.2.1 _ p P1.out).1; rw [hnm] at this; cases this
            have EP := hideIt (pB_false NO.out)
            have NM := hideIt hnm
            clear hnm
            go_wp2_with (go_at_call 30; refine (l03Name_any _ _ (HN.out _ _ P1.out)).mono ?_; rintro e w' ⟨rfl, rfl⟩; rw [NM.out])
            go_ret2
            exact ⟨0, by rw [EP.out]; rfl, fun h => absurd h NO.out, GA.out⟩
          cases hcp : inB p.cap 0 500
          · have NO : Hid (¬ PinsP x.pins) := hideIt fun h => by have := (h.2.1 _ p P1.out).2.1; rw [hcp] at this; cases this
            have EP := hideIt (pB_false NO.out)
            have NM := hideIt hnm
            have CP := hideIt hcp
            clear hnm hcp
            go_wp2_with (first | (go_at_call 30; refine (l03Name_any _ _ (HN.out _ _ P1.out)).mono ?_; rintro e w' ⟨rfl, rfl⟩; rw [NM.out]) | (go_at_call 31; refine (l01In_any _ _ _ _).mono ?_; rintro e w' ⟨rfl, rfl⟩; rw [CP.out]))
            go_ret2
            exact ⟨0, by rw [EP.out]; rfl, fun h => absurd h NO.out, GA.out⟩
          have NM := hideIt hnm
          have CP := hideIt hcp
          clear hnm hcp
          have OKN : Hid (((q + 1 = x.pins.length → p.dir = 2 ∧ p.cap = 0 ∧ p.clock = false) ∧ (q + 1 < x.pins.length → p.dir = 1)) → Hid (∀ (j : Nat) (r : PinD), j < q + 1 → x.pins[j]? = some r → PinOk x.pins.length j r ∧ ∀ (i : Nat) (s : PinD), i < j → x.pins[i]? = some s → ¬ s.name = r.name)) := hideIt fun h j r hj hr => by
            by_cases ej : j = q
            · subst ej
              rw [P1.out] at hr
              injection hr with hr
              subst hr
              exact ⟨⟨NM.out, CP.out, h.1, h.2⟩, fun i s hi hs => hne.out i s hi hs⟩
            · exact hco.out j r (by omega) hr
          have BAD : Hid (¬ ((q + 1 = x.pins.length → p.dir = 2 ∧ p.cap = 0 ∧ p.clock = false) ∧ (q + 1 < x.pins.length → p.dir = 1)) → ¬ PinsP x.pins) := hideIt fun h hp => h (hp.2.1 _ p P1.out).2.2
          have CS := hideIt (clkN_succ P1.out)
          by_cases hla : q + 1 = x.pins.length
          · by_cases hd : p.dir = 2
            rotate_left
            · have NO := hideIt (BAD.out (fun h => hd (h.1 hla).1))
              have EP := hideIt (pB_false NO.out)
              go_wp2_with (first | (go_at_call 30; refine (l03Name_any _ _ (HN.out _ _ P1.out)).mono ?_; rintro e w' ⟨rfl, rfl⟩; rw [NM.out]) | (go_at_call 31; refine (l01In_any _ _ _ _).mono ?_; rintro e w' ⟨rfl, rfl⟩; rw [CP.out]))
              go_ret2
              exact ⟨0, by rw [EP.out]; rfl, fun h => absurd h NO.out, GA.out⟩
            by_cases hc0 : p.cap = 0
            rotate_left
            · have NO := hideIt (BAD.out (fun h => hc0 (h.1 hla).2.1))
              have EP := hideIt (pB_false NO.out)
              go_wp2_with (first | (go_at_call 30; refine (l03Name_any _ _ (HN.out _ _ P1.out)).mono ?_; rintro e w' ⟨rfl, rfl⟩; rw [NM.out]) | (go_at_call 31; refine (l01In_any _ _ _ _).mono ?_; rintro e w' ⟨rfl, rfl⟩; rw [CP.out]))
              go_ret2
              exact ⟨0, by rw [EP.out]; rfl, fun h => absurd h NO.out, GA.out⟩
            clear CP
            have CP := hideIt (show inB 0 0 500 = true by decide)
            cases hk0 : p.clock
            · have C1 : Hid (clkN x.pins (q + 1) = clkN x.pins q) := hideIt (by rw [CS.out, hk0]; rfl)
              have OK1 := hideIt (OKN.out ⟨fun _ => ⟨hd, hc0, hk0⟩, fun h => by omega⟩)
              go_wp2_with (first | (go_at_call 30; refine (l03Name_any _ _ (HN.out _ _ P1.out)).mono ?_; rintro e w' ⟨rfl, rfl⟩; rw [NM.out]) | (go_at_call 31; refine (l01In_any _ _ _ _).mono ?_; rintro e w' ⟨rfl, rfl⟩; rw [CP.out]))
              go_roundw
              case rel => exact ⟨q + 1, by omega, by go_num, by rw [C1.out], OK1.out, GB.out⟩
              case measure => simp [intOf]; omega
            · have NO := hideIt (BAD.out (fun h => by have := (h.1 hla).2.2; rw [hk0] at this; cases this))
              have EP := hideIt (pB_false NO.out)
              go_wp2_with (first | (go_at_call 30; refine (l03Name_any _ _ (HN.out _ _ P1.out)).mono ?_; rintro e w' ⟨rfl, rfl⟩; rw [NM.out]) | (go_at_call 31; refine (l01In_any _ _ _ _).mono ?_; rintro e w' ⟨rfl, rfl⟩; rw [CP.out]))
              go_ret2
              exact ⟨0, by rw [EP.out]; rfl, fun h => absurd h NO.out, GA.out⟩
          · have hlb : q + 1 < x.pins.length := by omega
            by_cases hd : p.dir = 1
            rotate_left
            · have NO := hideIt (BAD.out (fun h => hd (h.2 hlb)))
              have EP := hideIt (pB_false NO.out)
              go_wp2_with (first | (go_at_call 30; refine (l03Name_any _ _ (HN.out _ _ P1.out)).mono ?_; rintro e w' ⟨rfl, rfl⟩; rw [NM.out]) | (go_at_call 31; refine (l01In_any _ _ _ _).mono ?_; rintro e w' ⟨rfl, rfl⟩; rw [CP.out]))
              go_ret2
              exact ⟨0, by rw [EP.out]; rfl, fun h => absurd h NO.out, GA.out⟩
            cases hk0 : p.clock
            · have C1 : Hid (clkN x.pins (q + 1) = clkN x.pins q) := hideIt (by rw [CS.out, hk0]; rfl)
              have OK1 := hideIt (OKN.out ⟨fun h => by omega, fun _ => hd⟩)
              go_wp2_with (first | (go_at_call 30; refine (l03Name_any _ _ (HN.out _ _ P1.out)).mono ?_; rintro e w' ⟨rfl, rfl⟩; rw [NM.out]) | (go_at_call 31; refine (l01In_any _ _ _ _).mono ?_; rintro e w' ⟨rfl, rfl⟩; rw [CP.out]))
              go_roundw
              case rel => exact ⟨q + 1, by omega, by go_num, by rw [C1.out], OK1.out, GB.out⟩
              case measure => simp [intOf]; omega
            · have C1 : Hid (clkN x.pins (q + 1) = clkN x.pins q + 1) := hideIt (by rw [CS.out, hk0]; rfl)
              have OK1 := hideIt (OKN.out ⟨fun h => by omega, fun _ => hd⟩)
              go_wp2_with (first | (go_at_call 30; refine (l03Name_any _ _ (HN.out _ _ P1.out)).mono ?_; rintro e w' ⟨rfl, rfl⟩; rw [NM.out]) | (go_at_call 31; refine (l01In_any _ _ _ _).mono ?_; rintro e w' ⟨rfl, rfl⟩; rw [CP.out]))
              go_roundw
              case rel => exact ⟨q + 1, by omega, by go_num, by rw [C1.out]; simp, OK1.out, GB.out⟩
              case measure => simp [intOf]; omega
    · obtain rfl : k = x.pins.length := by omega
      have hyes : PinsP x.pins := ⟨⟨n2, n5⟩, fun i p hi => (hco.out i p (List.getElem?_eq_some_iff.1 hi).1 hi).1, fun i j p q hij hi hj => (hco.out j q (List.getElem?_eq_some_iff.1 hj).1 hj).2 i p hij hi⟩
      have EP := hideIt (pB_true hyes)
      clear hyes hco
      go_wp2
      go_ret2
      exact ⟨_, by rw [EP.out]; rfl, fun _ => rfl, G.out.trans HG.out⟩
end Go.Proofs.YtcaklodecejkhaaDoor
