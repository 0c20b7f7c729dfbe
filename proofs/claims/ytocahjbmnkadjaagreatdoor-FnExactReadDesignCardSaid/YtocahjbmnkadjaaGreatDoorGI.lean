/-
  Contract of the reference's test of pins.
-/
import Derived.Test.YtocahjbmnkadjaaGreatDoorGG
import Derived.Test.YtocahjbmnkadjaaGreatDoorGH
import Derived.Test.YtocahjbmnkadjaaGreatDoorGA
namespace Go.Proofs.YtocahjbmnkadjaaGreatDoor
open Go.RowKit
/-- the pins' answer -/
def PinsPost (ps : List PinD) (w : World) (e : Ending) (w' : World) : Prop :=
  ∃ c : Int, e = .returned (.tuple #[.int .i64 c, .bool (pB (PinsP ps))]) ∧ (PinsP ps → c = (clkN ps ps.length : Int)) ∧ Grows w w'
set_option maxHeartbeats 4000000 in
theorem l03Pins_any {v0 v1 v2 v3 v4 v5 v6 : Value} {x : CellD} (w : World) (h : RCell w [v0, v1, v2, v3, v4, v5, v6] x) :
    Calls Tryz.prog 58 #[.agg #[v0, v1, v2, v3, v4, v5, v6]] w (PinsPost x.pins w) := by
  obtain ⟨rfl, rfl, hp, ha, ht, rfl, rfl, -⟩ := h.parts
  have hl := RList.len hp
  obtain ⟨A, n0, rfl, -, -, hx⟩ := RList.form hp
  have S := hideIt (Blk.new w 71 #[.string x.name, .int .i64 x.kind, .slice A x.pins.length n0, v3, v4, .int .i64 x.leak, .int .i64 x.energy])
  have G := hideIt ((Grows.refl w).alloc (.cells #[.string x.name, .int .i64 x.kind, .slice A x.pins.length n0, v3, v4, .int .i64 x.leak, .int .i64 x.energy] 71))
  have HX := hideIt hx
  have HN := hideIt (fun (i : Nat) (p : PinD) (hi : x.pins[i]? = some p) => (by obtain ⟨b, off, e, cs, hl1, hcs, hr⟩ := hx i p hi; exact hr.2 : p.name.size ≤ maxLen))
  clear hx hp ha ht h
  by_cases hn : 2 ≤ x.pins.length ∧ x.pins.length ≤ 5
  rotate_left
  · have EP := hideIt (pB_false (p := PinsP x.pins) fun h => hn h.1)
    have hno : ¬ PinsP x.pins := fun h => hn h.1
    have HNO := hideIt hno
    clear hno
    by_cases h2 : x.pins.length < 2
    · go_enter Tryz.func58, Tryz.ntmps58
      go_wp2
      go_ret2
      exact ⟨0, by rw [EP.out]; rfl, fun h => absurd h HNO.out, G.out⟩
    · have h5 : 5 < x.pins.length := by omega
      go_enter Tryz.func58, Tryz.ntmps58
      go_wp2
      go_ret2
      exact ⟨0, by rw [EP.out]; rfl, fun h => absurd h HNO.out, G.out⟩
  obtain ⟨n2, n5⟩ := hn
  have c2 : (w.alloc (.cells #[.string x.name, .int .i64 x.kind, .slice A x.pins.length n0, v3, v4, .int .i64 x.leak, .int .i64 x.energy] 71)).cell? ⟨w.heap.size, 2, none⟩ = some (.slice A x.pins.length n0) := S.out.cell 2
  go_enter Tryz.func58, Tryz.ntmps58
  go_wp2
  go_loopw [5, 6, 8] (fun c i _ wr => ∃ k : Nat, k ≤ x.pins.length ∧ i = .int .i64 (k : Int) ∧ c = .int .i64 (clkN x.pins k : Int) ∧ Hid (∀ (j : Nat) (p : PinD), j < k → x.pins[j]? = some p → PinOk x.pins.length j p ∧ ∀ (i : Nat) (q : PinD), i < j → x.pins[i]? = some q → ¬ q.name = p.name) ∧ Grows (w.alloc (.cells #[.string x.name, .int .i64 x.kind, .slice A x.pins.length n0, v3, v4, .int .i64 x.leak, .int .i64 x.energy] 71)) wr) (fun _ i _ _ => x.pins.length - (intOf i).toNat)
  case atStart => exact ⟨0, by omega, rfl, rfl, fun j p hj => absurd hj (by omega), Grows.refl _⟩
  case round =>
    obtain ⟨k, hk, rfl, rfl, hco, hg⟩ := hrel
    have kS : wr.cell? ⟨w.heap.size, 2, none⟩ = some (.slice A x.pins.length n0) := (S.out.grows hg).cell 2
    have kl : w.heap.size < wr.heap.size := (S.out.grows hg).lt
    have HG := hideIt hg
    have cl := clkN_le x.pins k
    clear hg
    by_cases hlt : k < x.pins.length
    · obtain ⟨p, hp⟩ : ∃ p, x.pins[k]? = some p := ⟨_, List.getElem?_eq_getElem hlt⟩
      obtain ⟨b, off, rfl, cs, hl1, hcs, hr⟩ := HX.out k p hp
      obtain ⟨d0, d1, d2, d3, rfl⟩ := list4 hl1
      obtain ⟨rfl, rfl, rfl, rfl, -⟩ := hr.parts
      have lift := (G.out.trans HG.out).keeps
      have kp0 : wr.cell? ⟨b, off + k * 4, none⟩ = some (.string p.name) := lift _ _ (by simpa using hcs 0 _ rfl)
      have kp1 : wr.cell? ⟨b, off + k * 4 + 1, none⟩ = some (.int .i64 p.dir) := lift _ _ (by simpa [Nat.add_assoc] using hcs 1 _ rfl)
      have kp2 : wr.cell? ⟨b, off + k * 4 + 2, none⟩ = some (.int .i64 p.cap) := lift _ _ (by simpa [Nat.add_assoc] using hcs 2 _ rfl)
      have kp3 : wr.cell? ⟨b, off + k * 4 + 3, none⟩ = some (.bool p.clock) := lift _ _ (by simpa [Nat.add_assoc] using hcs 3 _ rfl)
      have P1 := hideIt hp
      clear hcs hl1 hr hp lift
      have BV := hideIt (Blk.new wr 125 #[.string p.name, .int .i64 p.dir, .int .i64 p.cap, .bool p.clock])
      obtain ⟨wo, ewo⟩ : ∃ wo : World, wo = wr := ⟨_, rfl⟩
      subst ewo
      go_wp2
      go_loopw [8] (fun i wr => ∃ q : Nat, q ≤ k ∧ i = .int .i64 (q : Int) ∧ Hid (∀ (j : Nat) (r : PinD), j < q → x.pins[j]? = some r → ¬ r.name = p.name) ∧ Grows (wo.alloc (.cells #[.string p.name, .int .i64 p.dir, .int .i64 p.cap, .bool p.clock] 125)) wr) (fun i _ => k - (intOf i).toNat)
      case atStart => exact ⟨0, by omega, rfl, fun j r hj => absurd hj (by omega), Grows.refl _⟩
      case round =>
        obtain ⟨q, hq, rfl, hne, hg2⟩ := hrel
        have HG2 := hideIt hg2
        have gg := (hideIt ((Grows.refl wo).alloc (.cells #[.string p.name, .int .i64 p.dir, .int .i64 p.cap, .bool p.clock] 125))).out.trans hg2
        have kS : wr.cell? ⟨w.heap.size, 2, none⟩ = some (.slice (some ⟨b, off, none⟩) x.pins.length n0) := (S.out.grows (HG.out.trans gg)).cell 2
        have bV := BV.out.grows hg2
        have v0 : wr.cell? ⟨wo.heap.size, 0, none⟩ = some (.string p.name) := bV.cell 0
        have v1 : wr.cell? ⟨wo.heap.size, 1, none⟩ = some (.int .i64 p.dir) := bV.cell 1
        have v2 : wr.cell? ⟨wo.heap.size, 2, none⟩ = some (.int .i64 p.cap) := bV.cell 2
        have v3' : wr.cell? ⟨wo.heap.size, 3, none⟩ = some (.bool p.clock) := bV.cell 3
        have lV := bV.lt
        have lS : w.heap.size < wr.heap.size := (S.out.grows (HG.out.trans gg)).lt
        have GA := hideIt (G.out.trans (HG.out.trans gg))
        have GB := hideIt (HG.out.trans gg)
        clear bV hg2 gg kp0 kp1 kp2 kp3
        by_cases hlq : q < k
        · obtain ⟨r, hr⟩ : ∃ r, x.pins[q]? = some r := ⟨_, List.getElem?_eq_getElem (by omega)⟩
          obtain ⟨b', off', e, cs, hl1, hcs, hrr⟩ := HX.out q r hr
          injection e with e
          injection e with e1 e2
          subst e1 e2
          obtain ⟨d0, d1, d2, d3, rfl⟩ := list4 hl1
          obtain ⟨rfl, rfl, rfl, rfl, -⟩ := hrr.parts
          have kq : wr.cell? ⟨b, off + q * 4, none⟩ = some (.string r.name) := GA.out.keeps _ _ (by simpa using hcs 0 _ rfl)
          have Q1 := hideIt hr
          clear hcs hl1 hrr hr
          by_cases he : r.name = p.name
          · have NO : Hid (¬ PinsP x.pins) := hideIt fun h => h.2.2 q k r p hlq Q1.out P1.out he
            have EP := hideIt (pB_false NO.out)
            have he1 : (r.name.toList == p.name.toList) = true := by rw [he]; simp
            go_wp2
            go_quiet (fail)
            go_wp2
            go_ret2
            exact ⟨0, by rw [EP.out]; rfl, fun h => absurd h NO.out, GA.out.drewN _⟩
          · have he1 := strNe he
            have HE := hideIt he
            clear he
            go_wp2
            go_quiet (fail)
            go_wp2
            go_roundw
            case rel => exact ⟨q + 1, by omega, by go_num, fun j s hj hs => by
              by_cases ej : j = q
              · subst ej
                rw [Q1.out] at hs
                injection hs with hs
                rw [← hs]
                exact HE.out
              · exact hne.out j s (by omega) hs, HG2.out.drewN _⟩
            case measure => simp [intOf]; omega
        · obtain rfl : q = k := by omega
          cases hnm : nameB p.name
          · have NO : Hid (¬ PinsP x.pins) := hideIt fun h => by have := (h.2.1 _ p P1.out).1; rw [hnm] at this; cases this
            have EP := hideIt (pB_false NO.out)
            have NM := hideIt hnm
            clear hnm
            go_wp2_with (go_at_call 59; refine (l03Name_any _ _ (HN.out _ _ P1.out)).mono ?_; rintro e w' ⟨rfl, rfl⟩; rw [NM.out])
            go_ret2
            exact ⟨0, by rw [EP.out]; rfl, fun h => absurd h NO.out, GA.out⟩
          cases hcp : inB p.cap 0 500
          · have NO : Hid (¬ PinsP x.pins) := hideIt fun h => by have := (h.2.1 _ p P1.out).2.1; rw [hcp] at this; cases this
            have EP := hideIt (pB_false NO.out)
            have NM := hideIt hnm
            have CP := hideIt hcp
            clear hnm hcp
            go_wp2_with (first | (go_at_call 59; refine (l03Name_any _ _ (HN.out _ _ P1.out)).mono ?_; rintro e w' ⟨rfl, rfl⟩; rw [NM.out]) | (go_at_call 60; refine (l01In_any _ _ _ _).mono ?_; rintro e w' ⟨rfl, rfl⟩; rw [CP.out]))
            go_ret2
            exact ⟨0, by rw [EP.out]; rfl, fun h => absurd h NO.out, GA.out⟩
          have NM := hideIt hnm
          have CP := hideIt hcp
          clear hnm hcp
          have OKN : Hid (((q + 1 = x.pins.length → p.dir = 2 ∧ p.cap = 0 ∧ p.clock = false) ∧ (q + 1 < x.pins.length → p.dir = 1)) → Hid (∀ (j : Nat) (r : PinD), j < q + 1 → x.pins[j]? = some r → PinOk x.pins.length j r ∧ ∀ (i : Nat) (s : PinD), i < j → x.pins[i]? = some s → ¬ s.name = r.name)) := hideIt fun h j r hj hr => by
            by_cases ej : j = q
            · subst ej
              rw [P1.out] at hr
              injection hr with hr
              subst hr
              exact ⟨⟨NM.out, CP.out, h.1, h.2⟩, fun i s hi hs => hne.out i s hi hs⟩
            · exact hco.out j r (by omega) hr
          have BAD : Hid (¬ ((q + 1 = x.pins.length → p.dir = 2 ∧ p.cap = 0 ∧ p.clock = false) ∧ (q + 1 < x.pins.length → p.dir = 1)) → ¬ PinsP x.pins) := hideIt fun h hp => h (hp.2.1 _ p P1.out).2.2
          have CS := hideIt (clkN_succ P1.out)
          by_cases hla : q + 1 = x.pins.length
          · by_cases hd : p.dir = 2
            rotate_left
            · have NO := hideIt (BAD.out (fun h => hd (h.1 hla).1))
              have EP := hideIt (pB_false NO.out)
              go_wp2_with (first | (go_at_call 59; refine (l03Name_any _ _ (HN.out _ _ P1.out)).mono ?_; rintro e w' ⟨rfl, rfl⟩; rw [NM.out]) | (go_at_call 60; refine (l01In_any _ _ _ _).mono ?_; rintro e w' ⟨rfl, rfl⟩; rw [CP.out]))
              go_ret2
              exact ⟨0, by rw [EP.out]; rfl, fun h => absurd h NO.out, GA.out⟩
            by_cases hc0 : p.cap = 0
            rotate_left
            · have NO := hideIt (BAD.out (fun h => hc0 (h.1 hla).2.1))
              have EP := hideIt (pB_false NO.out)
              go_wp2_with (first | (go_at_call 59; refine (l03Name_any _ _ (HN.out _ _ P1.out)).mono ?_; rintro e w' ⟨rfl, rfl⟩; rw [NM.out]) | (go_at_call 60; refine (l01In_any _ _ _ _).mono ?_; rintro e w' ⟨rfl, rfl⟩; rw [CP.out]))
              go_ret2
              exact ⟨0, by rw [EP.out]; rfl, fun h => absurd h NO.out, GA.out⟩
            clear CP
            have CP := hideIt (show inB 0 0 500 = true by decide)
            cases hk0 : p.clock
            · have C1 : Hid (clkN x.pins (q + 1) = clkN x.pins q) := hideIt (by rw [CS.out, hk0]; rfl)
              have OK1 := hideIt (OKN.out ⟨fun _ => ⟨hd, hc0, hk0⟩, fun h => by omega⟩)
              go_wp2_with (first | (go_at_call 59; refine (l03Name_any _ _ (HN.out _ _ P1.out)).mono ?_; rintro e w' ⟨rfl, rfl⟩; rw [NM.out]) | (go_at_call 60; refine (l01In_any _ _ _ _).mono ?_; rintro e w' ⟨rfl, rfl⟩; rw [CP.out]))
              go_roundw
              case rel => exact ⟨q + 1, by omega, by go_num, by rw [C1.out], OK1.out, GB.out⟩
              case measure => simp [intOf]; omega
            · have NO := hideIt (BAD.out (fun h => by have := (h.1 hla).2.2; rw [hk0] at this; cases this))
              have EP := hideIt (pB_false NO.out)
              go_wp2_with (first | (go_at_call 59; refine (l03Name_any _ _ (HN.out _ _ P1.out)).mono ?_; rintro e w' ⟨rfl, rfl⟩; rw [NM.out]) | (go_at_call 60; refine (l01In_any _ _ _ _).mono ?_; rintro e w' ⟨rfl, rfl⟩; rw [CP.out]))
              go_ret2
              exact ⟨0, by rw [EP.out]; rfl, fun h => absurd h NO.out, GA.out⟩
          · have hlb : q + 1 < x.pins.length := by omega
            by_cases hd : p.dir = 1
            rotate_left
            · have NO := hideIt (BAD.out (fun h => hd (h.2 hlb)))
              have EP := hideIt (pB_false NO.out)
              go_wp2_with (first | (go_at_call 59; refine (l03Name_any _ _ (HN.out _ _ P1.out)).mono ?_; rintro e w' ⟨rfl, rfl⟩; rw [NM.out]) | (go_at_call 60; refine (l01In_any _ _ _ _).mono ?_; rintro e w' ⟨rfl, rfl⟩; rw [CP.out]))
              go_ret2
              exact ⟨0, by rw [EP.out]; rfl, fun h => absurd h NO.out, GA.out⟩
            cases hk0 : p.clock
            · have C1 : Hid (clkN x.pins (q + 1) = clkN x.pins q) := hideIt (by rw [CS.out, hk0]; rfl)
              have OK1 := hideIt (OKN.out ⟨fun h => by omega, fun _ => hd⟩)
              go_wp2_with (first | (go_at_call 59; refine (l03Name_any _ _ (HN.out _ _ P1.out)).mono ?_; rintro e w' ⟨rfl, rfl⟩; rw [NM.out]) | (go_at_call 60; refine (l01In_any _ _ _ _).mono ?_; rintro e w' ⟨rfl, rfl⟩; rw [CP.out]))
              go_roundw
              case rel => exact ⟨q + 1, by omega, by go_num, by rw [C1.out], OK1.out, GB.out⟩
              case measure => simp [intOf]; omega
            · have C1 : Hid (clkN x.pins (q + 1) = clkN x.pins q + 1) := hideIt (by rw [CS.out, hk0]; rfl)
              have OK1 := hideIt (OKN.out ⟨fun h => by omega, fun _ => hd⟩)
              go_wp2_with (first | (go_at_call 59; refine (l03Name_any _ _ (HN.out _ _ P1.out)).mono ?_; rintro e w' ⟨rfl, rfl⟩; rw [NM.out]) | (go_at_call 60; refine (l01In_any _ _ _ _).mono ?_; rintro e w' ⟨rfl, rfl⟩; rw [CP.out]))
              go_roundw
              case rel => exact ⟨q + 1, by omega, by go_num, by rw [C1.out]; simp, OK1.out, GB.out⟩
              case measure => simp [intOf]; omega
    · obtain rfl : k = x.pins.length := by omega
      have hyes : PinsP x.pins := ⟨⟨n2, n5⟩, fun i p hi => (hco.out i p (List.getElem?_eq_some_iff.1 hi).1 hi).1, fun i j p q hij hi hj => (hco.out j q (List.getElem?_eq_some_iff.1 hj).1 hj).2 i p hij hi⟩
      have EP := hideIt (pB_true hyes)
      clear hyes hco
      go_wp2
      go_ret2
      exact ⟨_, by rw [EP.out]; rfl, fun _ => rfl, G.out.trans HG.out⟩
end Go.Proofs.YtocahjbmnkadjaaGreatDoor
/-
  Contract of the reference's test of an arc.
-/
namespace Go.Proofs.YtocahjbmnkadjaaGreatDoor
open Go.RowKit

def clkAt (ps : List PinD) (i : Int) : Bool := match ps[i.toNat]? with | some p => p.clock | none => false
theorem clkAt_of {ps : List PinD} {i : Nat} {p : PinD} (h : ps[i]? = some p) : clkAt ps (i : Int) = p.clock := by simp [clkAt, h]
/-- an arc as the reference tests it; n: how many pins -/
def sArcB (ps : List PinD) (a : ArcD) : Bool :=
  inB a.src 0 ((ps.length : Int) - 1 - 1) && inB a.dst 0 ((ps.length : Int) - 1) &&
  (if a.kind = 1 then !clkAt ps a.src && decide (a.dst = (ps.length : Int) - 1) && inB a.sense 1 3 && tablesB a.delay true && tablesB a.slew true
    else if a.kind = 2 ∨ a.kind = 3 then clkAt ps a.src && decide (a.dst = (ps.length : Int) - 1) && decide (a.sense = 0) && tablesB a.delay true && tablesB a.slew true
    else if a.kind = 4 ∨ a.kind = 5 then clkAt ps a.src && decide (a.dst < (ps.length : Int) - 1) && !clkAt ps a.dst && decide (a.sense = 0) && tablesB a.delay false && decide (a.slew.length = 0)
    else false)
set_option maxHeartbeats 4000000 in
theorem l03Arc_any {v0 v1 v2 v3 v4 v5 v6 u0 u1 u2 u3 u4 u5 : Value} {x : CellD} {a : ArcD} (w : World) (h : RCell w [v0, v1, v2, v3, v4, v5, v6] x) (ha : RArc w [u0, u1, u2, u3, u4, u5] a) (hn : 2 ≤ x.pins.length) (hn5 : x.pins.length ≤ 5) :
    Calls Tryz.prog 61 #[.agg #[v0, v1, v2, v3, v4, v5, v6], .agg #[u0, u1, u2, u3, u4, u5]] w fun e w' => e = .returned (.bool (sArcB x.pins a)) ∧ Grows w w' := by
  obtain ⟨rfl, rfl, hp, -, -, rfl, rfl, -⟩ := h.parts
  obtain ⟨rfl, rfl, rfl, rfl, hd, hs⟩ := ha.parts
  obtain ⟨kind, src, dst, sense, delay, slew⟩ := a
  obtain ⟨A, n0, rfl, -, -, hx⟩ := RList.form hp
  obtain ⟨D, nd, rfl⟩ : ∃ (D : Option Addr) (nd : Nat), u4 = .slice D delay.length nd := by obtain ⟨D, c, e, -⟩ := RList.form hd; exact ⟨D, c, e⟩
  obtain ⟨E, ne, rfl⟩ : ∃ (E : Option Addr) (ne : Nat), u5 = .slice E slew.length ne := by obtain ⟨D, c, e, -⟩ := RList.form hs; exact ⟨D, c, e⟩
  have sl := RList.len hs
  have g0 := ((Grows.refl w).alloc (.cells #[.string x.name, .int .i64 x.kind, .slice A x.pins.length n0, v3, v4, .int .i64 x.leak, .int .i64 x.energy] 71)).alloc (.cells #[.int .i64 kind, .int .i64 src, .int .i64 dst, .int .i64 sense, .slice D delay.length nd, .slice E slew.length ne] 101)
  have G := hideIt g0
  have HD := hideIt (hd.keep g0.keeps)
  have HS := hideIt (hs.keep g0.keeps)
  have B1 := hideIt ((Blk.new w 71 #[.string x.name, .int .i64 x.kind, .slice A x.pins.length n0, v3, v4, .int .i64 x.leak, .int .i64 x.energy]).grows ((Grows.refl _).alloc (.cells #[.int .i64 kind, .int .i64 src, .int .i64 dst, .int .i64 sense, .slice D delay.length nd, .slice E slew.length ne] 101)))
  have B2 : Hid (Blk ((w.alloc (.cells #[.string x.name, .int .i64 x.kind, .slice A x.pins.length n0, v3, v4, .int .i64 x.leak, .int .i64 x.energy] 71)).alloc (.cells #[.int .i64 kind, .int .i64 src, .int .i64 dst, .int .i64 sense, .slice D delay.length nd, .slice E slew.length ne] 101)) (w.heap.size + 1) 101 #[.int .i64 kind, .int .i64 src, .int .i64 dst, .int .i64 sense, .slice D delay.length nd, .slice E slew.length ne]) := by
    have := Blk.new (w.alloc (.cells #[.string x.name, .int .i64 x.kind, .slice A x.pins.length n0, v3, v4, .int .i64 x.leak, .int .i64 x.energy] 71)) 101 #[.int .i64 kind, .int .i64 src, .int .i64 dst, .int .i64 sense, .slice D delay.length nd, .slice E slew.length ne]
    exact hideIt (by simpa using this)
  have HX := hideIt hx
  clear hx hp hd hs h ha g0
  simp only at *
  cases q1 : inB src 0 ((x.pins.length : Int) - 1 - 1)
  · have EP := hideIt (show sArcB x.pins ⟨kind, src, dst, sense, delay, slew⟩ = false by unfold sArcB; simp only [q1, Bool.false_and])
    have Q1 := hideIt q1
    clear q1
    go_enter Tryz.func61, Tryz.ntmps61
    go_wp2_with (go_at_call 60; refine (l01In_any _ _ _ _).mono ?_; rintro e w' ⟨rfl, rfl⟩; rw [Q1.out])
    go_ret
    exact ⟨ret_bool EP.out.symm, G.out⟩
  cases q2 : inB dst 0 ((x.pins.length : Int) - 1)
  · have EP := hideIt (show sArcB x.pins ⟨kind, src, dst, sense, delay, slew⟩ = false by unfold sArcB; simp only [q1, q2, Bool.false_and, Bool.and_false])
    have Q1 := hideIt q1
    have Q2 := hideIt q2
    clear q1 q2
    go_enter Tryz.func61, Tryz.ntmps61
    go_wp2_with (go_at_call 60; refine (l01In_any _ _ _ _).mono ?_; rintro e w' ⟨rfl, rfl⟩; first | rw [Q1.out] | rw [Q2.out])
    go_ret
    exact ⟨ret_bool EP.out.symm, G.out⟩
  obtain ⟨b1, b2⟩ := inB_true q1
  obtain ⟨b3, b4⟩ := inB_true q2
  obtain ⟨i, rfl⟩ : ∃ i : Nat, src = (i : Int) := ⟨src.toNat, by omega⟩
  obtain ⟨p, hp⟩ : ∃ p, x.pins[i]? = some p := ⟨_, List.getElem?_eq_getElem (by omega)⟩
  have ci := clkAt_of hp
  obtain ⟨b, off, rfl, cs, hl1, hcs, hrp⟩ := HX.out i p hp
  obtain ⟨d0, d1, d2, d3, rfl⟩ := list4 hl1
  obtain ⟨rfl, rfl, rfl, rfl, -⟩ := hrp.parts
  have kp : w.cell? ⟨b, off + i * 4 + 3, none⟩ = some (.bool p.clock) := by simpa [Nat.add_assoc] using hcs 3 _ rfl
  have lb := cell_lt kp
  simp at lb
  have KP := G.out.keeps _ _ kp
  clear kp hcs hl1 hrp hp
  generalize hpc : p.clock = pc at *
  clear hpc p
  by_cases k1 : kind = 1
  · subst k1
    cases pc
    rotate_left
    · skip
      have EP := hideIt (show sArcB x.pins ⟨1, (i : Int), dst, sense, delay, slew⟩ = false by unfold sArcB; simp [q1, q2, ci])
      have Q1 := hideIt q1
      have Q2 := hideIt q2
      clear q1 q2 ci
      go_enter Tryz.func61, Tryz.ntmps61
      go_wp2_with (go_at_call 60; refine (l01In_any _ _ _ _).mono ?_; rintro e w' ⟨rfl, rfl⟩; first | rw [Q1.out] | rw [Q2.out])
      try go_wp2
      go_ret
      exact ⟨ret_bool EP.out.symm, G.out⟩
    · skip
      by_cases e0 : dst = (x.pins.length : Int) - 1
      rotate_left
      · skip
        have EP := hideIt (show sArcB x.pins ⟨1, (i : Int), dst, sense, delay, slew⟩ = false by unfold sArcB; simp [q1, q2, ci, e0])
        have Q1 := hideIt q1
        have Q2 := hideIt q2
        clear q1 q2 ci
        go_enter Tryz.func61, Tryz.ntmps61
        go_wp2_with (go_at_call 60; refine (l01In_any _ _ _ _).mono ?_; rintro e w' ⟨rfl, rfl⟩; first | rw [Q1.out] | rw [Q2.out])
        try go_wp2
        go_ret
        exact ⟨ret_bool EP.out.symm, G.out⟩
      · skip
        subst e0
        cases f3 : inB sense 1 3
        · skip
          have EP := hideIt (show sArcB x.pins ⟨1, (i : Int), (x.pins.length : Int) - 1, sense, delay, slew⟩ = false by unfold sArcB; simp [q1, q2, ci, f3])
          have Q1 := hideIt q1
          have Q2 := hideIt q2
          have Q3 := hideIt f3
          clear q1 q2 ci f3
          go_enter Tryz.func61, Tryz.ntmps61
          go_wp2_with (go_at_call 60; refine (l01In_any _ _ _ _).mono ?_; rintro e w' ⟨rfl, rfl⟩; first | rw [Q1.out] | rw [Q2.out] | rw [Q3.out])
          try go_wp2
          go_ret
          exact ⟨ret_bool EP.out.symm, G.out⟩
        · skip
          cases f4 : tablesB delay true
          · skip
            have EP := hideIt (show sArcB x.pins ⟨1, (i : Int), (x.pins.length : Int) - 1, sense, delay, slew⟩ = false by unfold sArcB; simp [q1, q2, ci, f3, f4])
            have Q1 := hideIt q1
            have Q2 := hideIt q2
            have Q3 := hideIt f3
            have Hf4 := hideIt f4
            clear q1 q2 ci f3 f4
            go_enter Tryz.func61, Tryz.ntmps61
            go_wp2_with (go_at_call 60; refine (l01In_any _ _ _ _).mono ?_; rintro e w' ⟨rfl, rfl⟩; first | rw [Q1.out] | rw [Q2.out] | rw [Q3.out])
            refine (l03Tables_any true _ HD.out).mono ?_
            rintro e w1 ⟨rfl, g1⟩
            rw [Hf4.out]
            have G1 := hideIt (G.out.trans g1)
            replace B2 := hideIt (B2.out.grows g1)
            have HS1 := hideIt (HS.out.keep g1.keeps)
            have kd0 : w1.cell? ⟨w.heap.size + 1, 5, none⟩ = some (.slice E slew.length ne) := B2.out.cell 5
            have kl0 := B2.out.lt
            clear g1
            try go_wp2
            go_ret
            exact ⟨ret_bool EP.out.symm, G1.out⟩
          · skip
            cases f5 : tablesB slew true
            · skip
              have EP := hideIt (show sArcB x.pins ⟨1, (i : Int), (x.pins.length : Int) - 1, sense, delay, slew⟩ = false by unfold sArcB; simp [q1, q2, ci, f3, f4, f5])
              have Q1 := hideIt q1
              have Q2 := hideIt q2
              have Q3 := hideIt f3
              have Hf4 := hideIt f4
              have Hf5 := hideIt f5
              clear q1 q2 ci f3 f4 f5
              go_enter Tryz.func61, Tryz.ntmps61
              go_wp2_with (go_at_call 60; refine (l01In_any _ _ _ _).mono ?_; rintro e w' ⟨rfl, rfl⟩; first | rw [Q1.out] | rw [Q2.out] | rw [Q3.out])
              refine (l03Tables_any true _ HD.out).mono ?_
              rintro e w1 ⟨rfl, g1⟩
              rw [Hf4.out]
              have G1 := hideIt (G.out.trans g1)
              replace B2 := hideIt (B2.out.grows g1)
              have HS1 := hideIt (HS.out.keep g1.keeps)
              have kd0 : w1.cell? ⟨w.heap.size + 1, 5, none⟩ = some (.slice E slew.length ne) := B2.out.cell 5
              have kl0 := B2.out.lt
              clear g1
              go_wp2_with fail
              refine (l03Tables_any true _ HS1.out).mono ?_
              rintro e w2 ⟨rfl, g2⟩
              rw [Hf5.out]
              replace G1 := hideIt (G1.out.trans g2)
              replace B2 := hideIt (B2.out.grows g2)
              have kd1 : w2.cell? ⟨w.heap.size + 1, 5, none⟩ = some (.slice E slew.length ne) := B2.out.cell 5
              have kl1 := B2.out.lt
              clear g2
              try go_wp2
              go_ret
              exact ⟨ret_bool EP.out.symm, G1.out⟩
            · skip
              have EP := hideIt (show sArcB x.pins ⟨1, (i : Int), (x.pins.length : Int) - 1, sense, delay, slew⟩ = true by unfold sArcB; simp [q1, q2, ci, f3, f4, f5])
              have Q1 := hideIt q1
              have Q2 := hideIt q2
              have Q3 := hideIt f3
              have Hf4 := hideIt f4
              have Hf5 := hideIt f5
              clear q1 q2 ci f3 f4 f5
              go_enter Tryz.func61, Tryz.ntmps61
              go_wp2_with (go_at_call 60; refine (l01In_any _ _ _ _).mono ?_; rintro e w' ⟨rfl, rfl⟩; first | rw [Q1.out] | rw [Q2.out] | rw [Q3.out])
              refine (l03Tables_any true _ HD.out).mono ?_
              rintro e w1 ⟨rfl, g1⟩
              rw [Hf4.out]
              have G1 := hideIt (G.out.trans g1)
              replace B2 := hideIt (B2.out.grows g1)
              have HS1 := hideIt (HS.out.keep g1.keeps)
              have kd0 : w1.cell? ⟨w.heap.size + 1, 5, none⟩ = some (.slice E slew.length ne) := B2.out.cell 5
              have kl0 := B2.out.lt
              clear g1
              go_wp2_with fail
              refine (l03Tables_any true _ HS1.out).mono ?_
              rintro e w2 ⟨rfl, g2⟩
              rw [Hf5.out]
              replace G1 := hideIt (G1.out.trans g2)
              replace B2 := hideIt (B2.out.grows g2)
              have kd1 : w2.cell? ⟨w.heap.size + 1, 5, none⟩ = some (.slice E slew.length ne) := B2.out.cell 5
              have kl1 := B2.out.lt
              clear g2
              try go_wp2
              go_ret
              exact ⟨ret_bool EP.out.symm, G1.out⟩
  by_cases k2 : kind = 2
  · subst k2
    cases pc
    · skip
      have EP := hideIt (show sArcB x.pins ⟨2, (i : Int), dst, sense, delay, slew⟩ = false by unfold sArcB; simp [q1, q2, ci])
      have Q1 := hideIt q1
      have Q2 := hideIt q2
      clear q1 q2 ci
      go_enter Tryz.func61, Tryz.ntmps61
      go_wp2_with (go_at_call 60; refine (l01In_any _ _ _ _).mono ?_; rintro e w' ⟨rfl, rfl⟩; first | rw [Q1.out] | rw [Q2.out])
      try go_wp2
      go_ret
      exact ⟨ret_bool EP.out.symm, G.out⟩
    · skip
      by_cases e0 : dst = (x.pins.length : Int) - 1
      rotate_left
      · skip
        have EP := hideIt (show sArcB x.pins ⟨2, (i : Int), dst, sense, delay, slew⟩ = false by unfold sArcB; simp [q1, q2, ci, e0])
        have Q1 := hideIt q1
        have Q2 := hideIt q2
        clear q1 q2 ci
        go_enter Tryz.func61, Tryz.ntmps61
        go_wp2_with (go_at_call 60; refine (l01In_any _ _ _ _).mono ?_; rintro e w' ⟨rfl, rfl⟩; first | rw [Q1.out] | rw [Q2.out])
        try go_wp2
        go_ret
        exact ⟨ret_bool EP.out.symm, G.out⟩
      · skip
        subst e0
        by_cases z0 : sense = 0
        rotate_left
        · skip
          have EP := hideIt (show sArcB x.pins ⟨2, (i : Int), (x.pins.length : Int) - 1, sense, delay, slew⟩ = false by unfold sArcB; simp [q1, q2, ci, z0])
          have Q1 := hideIt q1
          have Q2 := hideIt q2
          clear q1 q2 ci
          go_enter Tryz.func61, Tryz.ntmps61
          go_wp2_with (go_at_call 60; refine (l01In_any _ _ _ _).mono ?_; rintro e w' ⟨rfl, rfl⟩; first | rw [Q1.out] | rw [Q2.out])
          try go_wp2
          go_ret
          exact ⟨ret_bool EP.out.symm, G.out⟩
        · skip
          subst z0
          cases f4 : tablesB delay true
          · skip
            have EP := hideIt (show sArcB x.pins ⟨2, (i : Int), (x.pins.length : Int) - 1, 0, delay, slew⟩ = false by unfold sArcB; simp [q1, q2, ci, f4])
            have Q1 := hideIt q1
            have Q2 := hideIt q2
            have Hf4 := hideIt f4
            clear q1 q2 ci f4
            go_enter Tryz.func61, Tryz.ntmps61
            go_wp2_with (go_at_call 60; refine (l01In_any _ _ _ _).mono ?_; rintro e w' ⟨rfl, rfl⟩; first | rw [Q1.out] | rw [Q2.out])
            refine (l03Tables_any true _ HD.out).mono ?_
            rintro e w1 ⟨rfl, g1⟩
            rw [Hf4.out]
            have G1 := hideIt (G.out.trans g1)
            replace B2 := hideIt (B2.out.grows g1)
            have HS1 := hideIt (HS.out.keep g1.keeps)
            have kd0 : w1.cell? ⟨w.heap.size + 1, 5, none⟩ = some (.slice E slew.length ne) := B2.out.cell 5
            have kl0 := B2.out.lt
            clear g1
            try go_wp2
            go_ret
            exact ⟨ret_bool EP.out.symm, G1.out⟩
          · skip
            cases f5 : tablesB slew true
            · skip
              have EP := hideIt (show sArcB x.pins ⟨2, (i : Int), (x.pins.length : Int) - 1, 0, delay, slew⟩ = false by unfold sArcB; simp [q1, q2, ci, f4, f5])
              have Q1 := hideIt q1
              have Q2 := hideIt q2
              have Hf4 := hideIt f4
              have Hf5 := hideIt f5
              clear q1 q2 ci f4 f5
              go_enter Tryz.func61, Tryz.ntmps61
              go_wp2_with (go_at_call 60; refine (l01In_any _ _ _ _).mono ?_; rintro e w' ⟨rfl, rfl⟩; first | rw [Q1.out] | rw [Q2.out])
              refine (l03Tables_any true _ HD.out).mono ?_
              rintro e w1 ⟨rfl, g1⟩
              rw [Hf4.out]
              have G1 := hideIt (G.out.trans g1)
              replace B2 := hideIt (B2.out.grows g1)
              have HS1 := hideIt (HS.out.keep g1.keeps)
              have kd0 : w1.cell? ⟨w.heap.size + 1, 5, none⟩ = some (.slice E slew.length ne) := B2.out.cell 5
              have kl0 := B2.out.lt
              clear g1
              go_wp2_with fail
              refine (l03Tables_any true _ HS1.out).mono ?_
              rintro e w2 ⟨rfl, g2⟩
              rw [Hf5.out]
              replace G1 := hideIt (G1.out.trans g2)
              replace B2 := hideIt (B2.out.grows g2)
              have kd1 : w2.cell? ⟨w.heap.size + 1, 5, none⟩ = some (.slice E slew.length ne) := B2.out.cell 5
              have kl1 := B2.out.lt
              clear g2
              try go_wp2
              go_ret
              exact ⟨ret_bool EP.out.symm, G1.out⟩
            · skip
              have EP := hideIt (show sArcB x.pins ⟨2, (i : Int), (x.pins.length : Int) - 1, 0, delay, slew⟩ = true by unfold sArcB; simp [q1, q2, ci, f4, f5])
              have Q1 := hideIt q1
              have Q2 := hideIt q2
              have Hf4 := hideIt f4
              have Hf5 := hideIt f5
              clear q1 q2 ci f4 f5
              go_enter Tryz.func61, Tryz.ntmps61
              go_wp2_with (go_at_call 60; refine (l01In_any _ _ _ _).mono ?_; rintro e w' ⟨rfl, rfl⟩; first | rw [Q1.out] | rw [Q2.out])
              refine (l03Tables_any true _ HD.out).mono ?_
              rintro e w1 ⟨rfl, g1⟩
              rw [Hf4.out]
              have G1 := hideIt (G.out.trans g1)
              replace B2 := hideIt (B2.out.grows g1)
              have HS1 := hideIt (HS.out.keep g1.keeps)
              have kd0 : w1.cell? ⟨w.heap.size + 1, 5, none⟩ = some (.slice E slew.length ne) := B2.out.cell 5
              have kl0 := B2.out.lt
              clear g1
              go_wp2_with fail
              refine (l03Tables_any true _ HS1.out).mono ?_
              rintro e w2 ⟨rfl, g2⟩
              rw [Hf5.out]
              replace G1 := hideIt (G1.out.trans g2)
              replace B2 := hideIt (B2.out.grows g2)
              have kd1 : w2.cell? ⟨w.heap.size + 1, 5, none⟩ = some (.slice E slew.length ne) := B2.out.cell 5
              have kl1 := B2.out.lt
              clear g2
              try go_wp2
              go_ret
              exact ⟨ret_bool EP.out.symm, G1.out⟩
  by_cases k3 : kind = 3
  · subst k3
    cases pc
    · skip
      have EP := hideIt (show sArcB x.pins ⟨3, (i : Int), dst, sense, delay, slew⟩ = false by unfold sArcB; simp [q1, q2, ci])
      have Q1 := hideIt q1
      have Q2 := hideIt q2
      clear q1 q2 ci
      go_enter Tryz.func61, Tryz.ntmps61
      go_wp2_with (go_at_call 60; refine (l01In_any _ _ _ _).mono ?_; rintro e w' ⟨rfl, rfl⟩; first | rw [Q1.out] | rw [Q2.out])
      try go_wp2
      go_ret
      exact ⟨ret_bool EP.out.symm, G.out⟩
    · skip
      by_cases e0 : dst = (x.pins.length : Int) - 1
      rotate_left
      · skip
        have EP := hideIt (show sArcB x.pins ⟨3, (i : Int), dst, sense, delay, slew⟩ = false by unfold sArcB; simp [q1, q2, ci, e0])
        have Q1 := hideIt q1
        have Q2 := hideIt q2
        clear q1 q2 ci
        go_enter Tryz.func61, Tryz.ntmps61
        go_wp2_with (go_at_call 60; refine (l01In_any _ _ _ _).mono ?_; rintro e w' ⟨rfl, rfl⟩; first | rw [Q1.out] | rw [Q2.out])
        try go_wp2
        go_ret
        exact ⟨ret_bool EP.out.symm, G.out⟩
      · skip
        subst e0
        by_cases z0 : sense = 0
        rotate_left
        · skip
          have EP := hideIt (show sArcB x.pins ⟨3, (i : Int), (x.pins.length : Int) - 1, sense, delay, slew⟩ = false by unfold sArcB; simp [q1, q2, ci, z0])
          have Q1 := hideIt q1
          have Q2 := hideIt q2
          clear q1 q2 ci
          go_enter Tryz.func61, Tryz.ntmps61
          go_wp2_with (go_at_call 60; refine (l01In_any _ _ _ _).mono ?_; rintro e w' ⟨rfl, rfl⟩; first | rw [Q1.out] | rw [Q2.out])
          try go_wp2
          go_ret
          exact ⟨ret_bool EP.out.symm, G.out⟩
        · skip
          subst z0
          cases f4 : tablesB delay true
          · skip
            have EP := hideIt (show sArcB x.pins ⟨3, (i : Int), (x.pins.length : Int) - 1, 0, delay, slew⟩ = false by unfold sArcB; simp [q1, q2, ci, f4])
            have Q1 := hideIt q1
            have Q2 := hideIt q2
            have Hf4 := hideIt f4
            clear q1 q2 ci f4
            go_enter Tryz.func61, Tryz.ntmps61
            go_wp2_with (go_at_call 60; refine (l01In_any _ _ _ _).mono ?_; rintro e w' ⟨rfl, rfl⟩; first | rw [Q1.out] | rw [Q2.out])
            refine (l03Tables_any true _ HD.out).mono ?_
            rintro e w1 ⟨rfl, g1⟩
            rw [Hf4.out]
            have G1 := hideIt (G.out.trans g1)
            replace B2 := hideIt (B2.out.grows g1)
            have HS1 := hideIt (HS.out.keep g1.keeps)
            have kd0 : w1.cell? ⟨w.heap.size + 1, 5, none⟩ = some (.slice E slew.length ne) := B2.out.cell 5
            have kl0 := B2.out.lt
            clear g1
            try go_wp2
            go_ret
            exact ⟨ret_bool EP.out.symm, G1.out⟩
          · skip
            cases f5 : tablesB slew true
            · skip
              have EP := hideIt (show sArcB x.pins ⟨3, (i : Int), (x.pins.length : Int) - 1, 0, delay, slew⟩ = false by unfold sArcB; simp [q1, q2, ci, f4, f5])
              have Q1 := hideIt q1
              have Q2 := hideIt q2
              have Hf4 := hideIt f4
              have Hf5 := hideIt f5
              clear q1 q2 ci f4 f5
              go_enter Tryz.func61, Tryz.ntmps61
              go_wp2_with (go_at_call 60; refine (l01In_any _ _ _ _).mono ?_; rintro e w' ⟨rfl, rfl⟩; first | rw [Q1.out] | rw [Q2.out])
              refine (l03Tables_any true _ HD.out).mono ?_
              rintro e w1 ⟨rfl, g1⟩
              rw [Hf4.out]
              have G1 := hideIt (G.out.trans g1)
              replace B2 := hideIt (B2.out.grows g1)
              have HS1 := hideIt (HS.out.keep g1.keeps)
              have kd0 : w1.cell? ⟨w.heap.size + 1, 5, none⟩ = some (.slice E slew.length ne) := B2.out.cell 5
              have kl0 := B2.out.lt
              clear g1
              go_wp2_with fail
              refine (l03Tables_any true _ HS1.out).mono ?_
              rintro e w2 ⟨rfl, g2⟩
              rw [Hf5.out]
              replace G1 := hideIt (G1.out.trans g2)
              replace B2 := hideIt (B2.out.grows g2)
              have kd1 : w2.cell? ⟨w.heap.size + 1, 5, none⟩ = some (.slice E slew.length ne) := B2.out.cell 5
              have kl1 := B2.out.lt
              clear g2
              try go_wp2
              go_ret
              exact ⟨ret_bool EP.out.symm, G1.out⟩
            · skip
              have EP := hideIt (show sArcB x.pins ⟨3, (i : Int), (x.pins.length : Int) - 1, 0, delay, slew⟩ = true by unfold sArcB; simp [q1, q2, ci, f4, f5])
              have Q1 := hideIt q1
              have Q2 := hideIt q2
              have Hf4 := hideIt f4
              have Hf5 := hideIt f5
              clear q1 q2 ci f4 f5
              go_enter Tryz.func61, Tryz.ntmps61
              go_wp2_with (go_at_call 60; refine (l01In_any _ _ _ _).mono ?_; rintro e w' ⟨rfl, rfl⟩; first | rw [Q1.out] | rw [Q2.out])
              refine (l03Tables_any true _ HD.out).mono ?_
              rintro e w1 ⟨rfl, g1⟩
              rw [Hf4.out]
              have G1 := hideIt (G.out.trans g1)
              replace B2 := hideIt (B2.out.grows g1)
              have HS1 := hideIt (HS.out.keep g1.keeps)
              have kd0 : w1.cell? ⟨w.heap.size + 1, 5, none⟩ = some (.slice E slew.length ne) := B2.out.cell 5
              have kl0 := B2.out.lt
              clear g1
              go_wp2_with fail
              refine (l03Tables_any true _ HS1.out).mono ?_
              rintro e w2 ⟨rfl, g2⟩
              rw [Hf5.out]
              replace G1 := hideIt (G1.out.trans g2)
              replace B2 := hideIt (B2.out.grows g2)
              have kd1 : w2.cell? ⟨w.heap.size + 1, 5, none⟩ = some (.slice E slew.length ne) := B2.out.cell 5
              have kl1 := B2.out.lt
              clear g2
              try go_wp2
              go_ret
              exact ⟨ret_bool EP.out.symm, G1.out⟩
  by_cases k4 : kind = 4
  · subst k4
    obtain ⟨j, rfl⟩ : ∃ j : Nat, dst = (j : Int) := ⟨dst.toNat, by omega⟩
    obtain ⟨r, hr⟩ : ∃ r, x.pins[j]? = some r := ⟨_, List.getElem?_eq_getElem (by omega)⟩
    have cj := clkAt_of hr
    have kr : w.cell? ⟨b, off + j * 4 + 3, none⟩ = some (.bool r.clock) := by
      obtain ⟨b', off', e, cs', hl2, hcs2, hrr⟩ := HX.out j r hr
      injection e with e
      injection e with e1 e2
      subst e1 e2
      obtain ⟨d0, d1, d2, d3, rfl⟩ := list4 hl2
      obtain ⟨rfl, rfl, rfl, rfl, -⟩ := hrr.parts
      simpa [Nat.add_assoc] using hcs2 3 _ rfl
    have KR := G.out.keeps _ _ kr
    clear kr hr
    generalize hrc : r.clock = rc at *
    clear hrc r
    cases pc
    · skip
      have EP := hideIt (show sArcB x.pins ⟨4, (i : Int), (j : Int), sense, delay, slew⟩ = false by unfold sArcB; simp [q1, q2, ci, cj])
      have Q1 := hideIt q1
      have Q2 := hideIt q2
      clear q1 q2 ci cj
      go_enter Tryz.func61, Tryz.ntmps61
      go_wp2_with (go_at_call 60; refine (l01In_any _ _ _ _).mono ?_; rintro e w' ⟨rfl, rfl⟩; first | rw [Q1.out] | rw [Q2.out])
      try go_wp2
      go_ret
      exact ⟨ret_bool EP.out.symm, G.out⟩
    · skip
      by_cases e0 : (j : Int) < (x.pins.length : Int) - 1
      rotate_left
      · skip
        have EP := hideIt (show sArcB x.pins ⟨4, (i : Int), (j : Int), sense, delay, slew⟩ = false by unfold sArcB; simp [q1, q2, ci, cj, e0])
        have Q1 := hideIt q1
        have Q2 := hideIt q2
        clear q1 q2 ci cj
        go_enter Tryz.func61, Tryz.ntmps61
        go_wp2_with (go_at_call 60; refine (l01In_any _ _ _ _).mono ?_; rintro e w' ⟨rfl, rfl⟩; first | rw [Q1.out] | rw [Q2.out])
        try go_wp2
        go_ret
        exact ⟨ret_bool EP.out.symm, G.out⟩
      · skip
        cases rc
        rotate_left
        · skip
          have EP := hideIt (show sArcB x.pins ⟨4, (i : Int), (j : Int), sense, delay, slew⟩ = false by unfold sArcB; simp [q1, q2, ci, cj, e0])
          have Q1 := hideIt q1
          have Q2 := hideIt q2
          clear q1 q2 ci cj
          go_enter Tryz.func61, Tryz.ntmps61
          go_wp2_with (go_at_call 60; refine (l01In_any _ _ _ _).mono ?_; rintro e w' ⟨rfl, rfl⟩; first | rw [Q1.out] | rw [Q2.out])
          try go_wp2
          go_ret
          exact ⟨ret_bool EP.out.symm, G.out⟩
        · skip
          by_cases z0 : sense = 0
          rotate_left
          · skip
            have EP := hideIt (show sArcB x.pins ⟨4, (i : Int), (j : Int), sense, delay, slew⟩ = false by unfold sArcB; simp [q1, q2, ci, cj, e0, z0])
            have Q1 := hideIt q1
            have Q2 := hideIt q2
            clear q1 q2 ci cj
            go_enter Tryz.func61, Tryz.ntmps61
            go_wp2_with (go_at_call 60; refine (l01In_any _ _ _ _).mono ?_; rintro e w' ⟨rfl, rfl⟩; first | rw [Q1.out] | rw [Q2.out])
            try go_wp2
            go_ret
            exact ⟨ret_bool EP.out.symm, G.out⟩
          · skip
            subst z0
            cases f4 : tablesB delay false
            · skip
              have EP := hideIt (show sArcB x.pins ⟨4, (i : Int), (j : Int), 0, delay, slew⟩ = false by unfold sArcB; simp [q1, q2, ci, cj, e0, f4])
              have Q1 := hideIt q1
              have Q2 := hideIt q2
              have Hf4 := hideIt f4
              clear q1 q2 ci cj f4
              go_enter Tryz.func61, Tryz.ntmps61
              go_wp2_with (go_at_call 60; refine (l01In_any _ _ _ _).mono ?_; rintro e w' ⟨rfl, rfl⟩; first | rw [Q1.out] | rw [Q2.out])
              refine (l03Tables_any false _ HD.out).mono ?_
              rintro e w1 ⟨rfl, g1⟩
              rw [Hf4.out]
              have G1 := hideIt (G.out.trans g1)
              replace B2 := hideIt (B2.out.grows g1)
              have HS1 := hideIt (HS.out.keep g1.keeps)
              have kd0 : w1.cell? ⟨w.heap.size + 1, 5, none⟩ = some (.slice E slew.length ne) := B2.out.cell 5
              have kl0 := B2.out.lt
              clear g1
              try go_wp2
              go_ret
              exact ⟨ret_bool EP.out.symm, G1.out⟩
            · skip
              have el : decide (slew.length = 0) = ((slew.length : Int) == 0) := by rw [Bool.eq_iff_iff]; simp
              have EP := hideIt (show sArcB x.pins ⟨4, (i : Int), (j : Int), 0, delay, slew⟩ = ((slew.length : Int) == 0) by unfold sArcB; rw [← el]; simp [q1, q2, ci, cj, e0, f4])
              have Q1 := hideIt q1
              have Q2 := hideIt q2
              have Hf4 := hideIt f4
              clear q1 q2 ci cj f4
              go_enter Tryz.func61, Tryz.ntmps61
              go_wp2_with (go_at_call 60; refine (l01In_any _ _ _ _).mono ?_; rintro e w' ⟨rfl, rfl⟩; first | rw [Q1.out] | rw [Q2.out])
              refine (l03Tables_any false _ HD.out).mono ?_
              rintro e w1 ⟨rfl, g1⟩
              rw [Hf4.out]
              have G1 := hideIt (G.out.trans g1)
              replace B2 := hideIt (B2.out.grows g1)
              have HS1 := hideIt (HS.out.keep g1.keeps)
              have kd0 : w1.cell? ⟨w.heap.size + 1, 5, none⟩ = some (.slice E slew.length ne) := B2.out.cell 5
              have kl0 := B2.out.lt
              clear g1
              try go_wp2
              go_ret
              exact ⟨ret_bool EP.out.symm, G1.out⟩
  by_cases k5 : kind = 5
  · subst k5
    obtain ⟨j, rfl⟩ : ∃ j : Nat, dst = (j : Int) := ⟨dst.toNat, by omega⟩
    obtain ⟨r, hr⟩ : ∃ r, x.pins[j]? = some r := ⟨_, List.getElem?_eq_getElem (by omega)⟩
    have cj := clkAt_of hr
    have kr : w.cell? ⟨b, off + j * 4 + 3, none⟩ = some (.bool r.clock) := by
      obtain ⟨b', off', e, cs', hl2, hcs2, hrr⟩ := HX.out j r hr
      injection e with e
      injection e with e1 e2
      subst e1 e2
      obtain ⟨d0, d1, d2, d3, rfl⟩ := list4 hl2
      obtain ⟨rfl, rfl, rfl, rfl, -⟩ := hrr.parts
      simpa [Nat.add_assoc] using hcs2 3 _ rfl
    have KR := G.out.keeps _ _ kr
    clear kr hr
    generalize hrc : r.clock = rc at *
    clear hrc r
    cases pc
    · skip
      have EP := hideIt (show sArcB x.pins ⟨5, (i : Int), (j : Int), sense, delay, slew⟩ = false by unfold sArcB; simp [q1, q2, ci, cj])
      have Q1 := hideIt q1
      have Q2 := hideIt q2
      clear q1 q2 ci cj
      go_enter Tryz.func61, Tryz.ntmps61
      go_wp2_with (go_at_call 60; refine (l01In_any _ _ _ _).mono ?_; rintro e w' ⟨rfl, rfl⟩; first | rw [Q1.out] | rw [Q2.out])
      try go_wp2
      go_ret
      exact ⟨ret_bool EP.out.symm, G.out⟩
    · skip
      by_cases e0 : (j : Int) < (x.pins.length : Int) - 1
      rotate_left
      · skip
        have EP := hideIt (show sArcB x.pins ⟨5, (i : Int), (j : Int), sense, delay, slew⟩ = false by unfold sArcB; simp [q1, q2, ci, cj, e0])
        have Q1 := hideIt q1
        have Q2 := hideIt q2
        clear q1 q2 ci cj
        go_enter Tryz.func61, Tryz.ntmps61
        go_wp2_with (go_at_call 60; refine (l01In_any _ _ _ _).mono ?_; rintro e w' ⟨rfl, rfl⟩; first | rw [Q1.out] | rw [Q2.out])
        try go_wp2
        go_ret
        exact ⟨ret_bool EP.out.symm, G.out⟩
      · skip
        cases rc
        rotate_left
        · skip
          have EP := hideIt (show sArcB x.pins ⟨5, (i : Int), (j : Int), sense, delay, slew⟩ = false by unfold sArcB; simp [q1, q2, ci, cj, e0])
          have Q1 := hideIt q1
          have Q2 := hideIt q2
          clear q1 q2 ci cj
          go_enter Tryz.func61, Tryz.ntmps61
          go_wp2_with (go_at_call 60; refine (l01In_any _ _ _ _).mono ?_; rintro e w' ⟨rfl, rfl⟩; first | rw [Q1.out] | rw [Q2.out])
          try go_wp2
          go_ret
          exact ⟨ret_bool EP.out.symm, G.out⟩
        · skip
          by_cases z0 : sense = 0
          rotate_left
          · skip
            have EP := hideIt (show sArcB x.pins ⟨5, (i : Int), (j : Int), sense, delay, slew⟩ = false by unfold sArcB; simp [q1, q2, ci, cj, e0, z0])
            have Q1 := hideIt q1
            have Q2 := hideIt q2
            clear q1 q2 ci cj
            go_enter Tryz.func61, Tryz.ntmps61
            go_wp2_with (go_at_call 60; refine (l01In_any _ _ _ _).mono ?_; rintro e w' ⟨rfl, rfl⟩; first | rw [Q1.out] | rw [Q2.out])
            try go_wp2
            go_ret
            exact ⟨ret_bool EP.out.symm, G.out⟩
          · skip
            subst z0
            cases f4 : tablesB delay false
            · skip
              have EP := hideIt (show sArcB x.pins ⟨5, (i : Int), (j : Int), 0, delay, slew⟩ = false by unfold sArcB; simp [q1, q2, ci, cj, e0, f4])
              have Q1 := hideIt q1
              have Q2 := hideIt q2
              have Hf4 := hideIt f4
              clear q1 q2 ci cj f4
              go_enter Tryz.func61, Tryz.ntmps61
              go_wp2_with (go_at_call 60; refine (l01In_any _ _ _ _).mono ?_; rintro e w' ⟨rfl, rfl⟩; first | rw [Q1.out] | rw [Q2.out])
              refine (l03Tables_any false _ HD.out).mono ?_
              rintro e w1 ⟨rfl, g1⟩
              rw [Hf4.out]
              have G1 := hideIt (G.out.trans g1)
              replace B2 := hideIt (B2.out.grows g1)
              have HS1 := hideIt (HS.out.keep g1.keeps)
              have kd0 : w1.cell? ⟨w.heap.size + 1, 5, none⟩ = some (.slice E slew.length ne) := B2.out.cell 5
              have kl0 := B2.out.lt
              clear g1
              try go_wp2
              go_ret
              exact ⟨ret_bool EP.out.symm, G1.out⟩
            · skip
              have el : decide (slew.length = 0) = ((slew.length : Int) == 0) := by rw [Bool.eq_iff_iff]; simp
              have EP := hideIt (show sArcB x.pins ⟨5, (i : Int), (j : Int), 0, delay, slew⟩ = ((slew.length : Int) == 0) by unfold sArcB; rw [← el]; simp [q1, q2, ci, cj, e0, f4])
              have Q1 := hideIt q1
              have Q2 := hideIt q2
              have Hf4 := hideIt f4
              clear q1 q2 ci cj f4
              go_enter Tryz.func61, Tryz.ntmps61
              go_wp2_with (go_at_call 60; refine (l01In_any _ _ _ _).mono ?_; rintro e w' ⟨rfl, rfl⟩; first | rw [Q1.out] | rw [Q2.out])
              refine (l03Tables_any false _ HD.out).mono ?_
              rintro e w1 ⟨rfl, g1⟩
              rw [Hf4.out]
              have G1 := hideIt (G.out.trans g1)
              replace B2 := hideIt (B2.out.grows g1)
              have HS1 := hideIt (HS.out.keep g1.keeps)
              have kd0 : w1.cell? ⟨w.heap.size + 1, 5, none⟩ = some (.slice E slew.length ne) := B2.out.cell 5
              have kl0 := B2.out.lt
              clear g1
              try go_wp2
              go_ret
              exact ⟨ret_bool EP.out.symm, G1.out⟩
  · skip
    have EP := hideIt (show sArcB x.pins ⟨kind, (i : Int), dst, sense, delay, slew⟩ = false by unfold sArcB; simp [k1, k2, k3, k4, k5])
    have Q1 := hideIt q1
    have Q2 := hideIt q2
    clear q1 q2 ci
    go_enter Tryz.func61, Tryz.ntmps61
    go_wp2_with (go_at_call 60; refine (l01In_any _ _ _ _).mono ?_; rintro e w' ⟨rfl, rfl⟩; first | rw [Q1.out] | rw [Q2.out])
    try go_wp2
    go_ret
    exact ⟨ret_bool EP.out.symm, G.out⟩
end Go.Proofs.YtocahjbmnkadjaaGreatDoor
/-
  Contract of the reference's count of the arcs of each kind.
-/
namespace Go.Proofs.YtocahjbmnkadjaaGreatDoor
open Go.RowKit

/-- how many of the first m arcs are of kind k -/
def kN (ar : List ArcD) (k : Int) (m : Nat) : Nat := ((ar.take m).filter fun a => decide (a.kind = k)).length
theorem kN_succ {ar : List ArcD} {k : Int} {m : Nat} {a : ArcD} (h : ar[m]? = some a) : kN ar k (m + 1) = kN ar k m + (if a.kind = k then 1 else 0) := by
  have e : ar.take (m + 1) = ar.take m ++ [a] := by
    rw [List.take_add_one, h]; rfl
  unfold kN
  rw [e, List.filter_append, List.length_append]
  by_cases hc : a.kind = k <;> simp [hc]
theorem kN_le (ar : List ArcD) (k : Int) (m : Nat) : kN ar k m ≤ m := by
  unfold kN
  exact Nat.le_trans (List.length_filter_le _ _) (by simp; omega)
theorem kN_pos {ar : List ArcD} {k : Int} : (0 < kN ar k ar.length) ↔ (ar.any fun a => decide (a.kind = k)) = true := by
  unfold kN
  rw [List.take_length, List.length_pos_iff, ne_eq, List.filter_eq_nil_iff, List.any_eq_true]
  constructor
  · intro h
    apply Classical.byContradiction
    intro hn
    exact h fun a ha hk => hn ⟨a, ha, hk⟩
  · rintro ⟨a, ha, hk⟩ h
    exact h a ha hk
def kCells (ar : List ArcD) (m : Nat) : Array Value := #[.int .i64 0, .int .i64 (kN ar 1 m : Int), .int .i64 (kN ar 2 m : Int), .int .i64 (kN ar 3 m : Int), .int .i64 (kN ar 4 m : Int), .int .i64 (kN ar 5 m : Int)]
def KindsPost (ar : List ArcD) (w : World) (e : Ending) (w' : World) : Prop :=
  ∃ B : Nat, e = .returned (.slice (some ⟨B, 0, none⟩) 6 6) ∧ Blk w' B 2 (kCells ar ar.length) ∧ Grows w w'
set_option maxHeartbeats 4000000 in
theorem l03Kinds_any {v0 v1 v2 v3 v4 v5 v6 : Value} {x : CellD} (w : World) (h : RCell w [v0, v1, v2, v3, v4, v5, v6] x) (ho : ∀ (j : Nat) (a : ArcD), x.arcs[j]? = some a → 1 ≤ a.kind ∧ a.kind ≤ 5) :
    Calls Tryz.prog 62 #[.agg #[v0, v1, v2, v3, v4, v5, v6]] w (KindsPost x.arcs w) := by
  obtain ⟨rfl, rfl, hp, ha, ht, rfl, rfl, -⟩ := h.parts
  have hl := RList.len ha
  obtain ⟨A, n0, rfl, -, -, hx⟩ := RList.form ha
  have S := hideIt (Blk.new w 71 #[.string x.name, .int .i64 x.kind, v2, .slice A x.arcs.length n0, v4, .int .i64 x.leak, .int .i64 x.energy])
  have G := hideIt ((Grows.refl w).alloc (.cells #[.string x.name, .int .i64 x.kind, v2, .slice A x.arcs.length n0, v4, .int .i64 x.leak, .int .i64 x.energy] 71))
  have HX := hideIt hx
  have HO := hideIt ho
  clear hx hp ha ht h ho
  have c3 : (w.alloc (.cells #[.string x.name, .int .i64 x.kind, v2, .slice A x.arcs.length n0, v4, .int .i64 x.leak, .int .i64 x.energy] 71)).cell? ⟨w.heap.size, 3, none⟩ = some (.slice A x.arcs.length n0) := S.out.cell 3
  have hmk : ∀ u : World, (Instr.makeSlice 64 (.int .i64 6) (.int .i64 6)).run Tryz.prog u = .ok (.slice (some ⟨u.heap.size, 0, none⟩) 6 6) (u.alloc (.cells #[.int .i64 0, .int .i64 0, .int .i64 0, .int .i64 0, .int .i64 0, .int .i64 0] 2)) := fun _ => by kernel_rfl
  go_enter Tryz.func62, Tryz.ntmps62
  go_wp2
  go_loopw [4] (fun i wr => ∃ k : Nat, k ≤ x.arcs.length ∧ i = .int .i64 (k : Int) ∧ Hid (Blk wr (w.heap.size + 1) 2 (kCells x.arcs k)) ∧ Grows (w.alloc (.cells #[.string x.name, .int .i64 x.kind, v2, .slice A x.arcs.length n0, v4, .int .i64 x.leak, .int .i64 x.energy] 71)) wr) (fun i _ => x.arcs.length - (intOf i).toNat)
  case atStart =>
    exact ⟨0, by omega, rfl, by
      have := Blk.new (w.alloc (.cells #[.string x.name, .int .i64 x.kind, v2, .slice A x.arcs.length n0, v4, .int .i64 x.leak, .int .i64 x.energy] 71)) 2 #[.int .i64 0, .int .i64 0, .int .i64 0, .int .i64 0, .int .i64 0, .int .i64 0]
      exact hideIt (by simpa [kCells, kN] using this), (Grows.refl _).alloc _⟩
  case round =>
    obtain ⟨k, hk, rfl, hB, hg⟩ := hrel
    have kS : wr.cell? ⟨w.heap.size, 3, none⟩ = some (.slice A x.arcs.length n0) := (S.out.grows hg).cell 3
    have kl : w.heap.size < wr.heap.size := (S.out.grows hg).lt
    have HG := hideIt hg
    clear hg c3 hmk
    by_cases hlt : k < x.arcs.length
    · obtain ⟨a, hp⟩ : ∃ a, x.arcs[k]? = some a := ⟨_, List.getElem?_eq_getElem hlt⟩
      obtain ⟨b, off, rfl, cs, hl1, hcs, hr⟩ := HX.out k a hp
      obtain ⟨d0, d1, d2, d3, d4, d5, rfl⟩ := list6 hl1
      obtain ⟨rfl, -⟩ := hr.parts
      have lift := (G.out.trans HG.out).keeps
      have k0 : wr.cell? ⟨b, off + k * 6, none⟩ = some (.int .i64 a.kind) := lift _ _ (by simpa using hcs 0 _ rfl)
      obtain ⟨o1, o5⟩ := HO.out k a hp
      have P1 := hideIt hp
      clear hcs hl1 hr hp lift
      obtain ⟨kind, src, dst, sense, delay, slew⟩ := a
      simp only at o1 o5 k0
      have cl1 := kN_le x.arcs 1 k
      have cl2 := kN_le x.arcs 2 k
      have cl3 := kN_le x.arcs 3 k
      have cl4 := kN_le x.arcs 4 k
      have cl5 := kN_le x.arcs 5 k
      have hl2 := hB.out.lt
      have hcases : kind = 1 ∨ kind = 2 ∨ kind = 3 ∨ kind = 4 ∨ kind = 5 := by omega
      rcases hcases with rfl | rfl | rfl | rfl | rfl
      · have e1 : wr.cell? ⟨w.heap.size + 1, 1, none⟩ = some (.int .i64 (kN x.arcs 1 k : Int)) := hB.out.cell 1
        have f1 : wr.frozen? ⟨w.heap.size + 1, 1, none⟩ = false := hB.out.frozen 1
        have B2 : Hid (Blk (wr.setCell ⟨w.heap.size + 1, 1, none⟩ (.int .i64 ((kN x.arcs 1 k : Int) + 1))) (w.heap.size + 1) 2 (kCells x.arcs (k + 1))) := hideIt (by
          have := hB.out.set_ 1 (.int .i64 ((kN x.arcs 1 k : Int) + 1))
          simpa [kCells, kN_succ P1.out] using this)
        have G2 := hideIt (HG.out.setCell (p := ⟨w.heap.size + 1, 1, none⟩) (by simp) (.int .i64 ((kN x.arcs 1 k : Int) + 1)))
        go_wp2
        go_roundw
        case rel => exact ⟨k + 1, by omega, by go_num, B2.out, G2.out⟩
        case measure => simp [intOf]; omega
      · have e2 : wr.cell? ⟨w.heap.size + 1, 2, none⟩ = some (.int .i64 (kN x.arcs 2 k : Int)) := hB.out.cell 2
        have f2 : wr.frozen? ⟨w.heap.size + 1, 2, none⟩ = false := hB.out.frozen 2
        have B2 : Hid (Blk (wr.setCell ⟨w.heap.size + 1, 2, none⟩ (.int .i64 ((kN x.arcs 2 k : Int) + 1))) (w.heap.size + 1) 2 (kCells x.arcs (k + 1))) := hideIt (by
          have := hB.out.set_ 2 (.int .i64 ((kN x.arcs 2 k : Int) + 1))
          simpa [kCells, kN_succ P1.out] using this)
        have G2 := hideIt (HG.out.setCell (p := ⟨w.heap.size + 1, 2, none⟩) (by simp) (.int .i64 ((kN x.arcs 2 k : Int) + 1)))
        go_wp2
        go_roundw
        case rel => exact ⟨k + 1, by omega, by go_num, B2.out, G2.out⟩
        case measure => simp [intOf]; omega
      · have e3 : wr.cell? ⟨w.heap.size + 1, 3, none⟩ = some (.int .i64 (kN x.arcs 3 k : Int)) := hB.out.cell 3
        have f3 : wr.frozen? ⟨w.heap.size + 1, 3, none⟩ = false := hB.out.frozen 3
        have B2 : Hid (Blk (wr.setCell ⟨w.heap.size + 1, 3, none⟩ (.int .i64 ((kN x.arcs 3 k : Int) + 1))) (w.heap.size + 1) 2 (kCells x.arcs (k + 1))) := hideIt (by
          have := hB.out.set_ 3 (.int .i64 ((kN x.arcs 3 k : Int) + 1))
          simpa [kCells, kN_succ P1.out] using this)
        have G2 := hideIt (HG.out.setCell (p := ⟨w.heap.size + 1, 3, none⟩) (by simp) (.int .i64 ((kN x.arcs 3 k : Int) + 1)))
        go_wp2
        go_roundw
        case rel => exact ⟨k + 1, by omega, by go_num, B2.out, G2.out⟩
        case measure => simp [intOf]; omega
      · have e4 : wr.cell? ⟨w.heap.size + 1, 4, none⟩ = some (.int .i64 (kN x.arcs 4 k : Int)) := hB.out.cell 4
        have f4 : wr.frozen? ⟨w.heap.size + 1, 4, none⟩ = false := hB.out.frozen 4
        have B2 : Hid (Blk (wr.setCell ⟨w.heap.size + 1, 4, none⟩ (.int .i64 ((kN x.arcs 4 k : Int) + 1))) (w.heap.size + 1) 2 (kCells x.arcs (k + 1))) := hideIt (by
          have := hB.out.set_ 4 (.int .i64 ((kN x.arcs 4 k : Int) + 1))
          simpa [kCells, kN_succ P1.out] using this)
        have G2 := hideIt (HG.out.setCell (p := ⟨w.heap.size + 1, 4, none⟩) (by simp) (.int .i64 ((kN x.arcs 4 k : Int) + 1)))
        go_wp2
        go_roundw
        case rel => exact ⟨k + 1, by omega, by go_num, B2.out, G2.out⟩
        case measure => simp [intOf]; omega
      · have e5 : wr.cell? ⟨w.heap.size + 1, 5, none⟩ = some (.int .i64 (kN x.arcs 5 k : Int)) := hB.out.cell 5
        have f5 : wr.frozen? ⟨w.heap.size + 1, 5, none⟩ = false := hB.out.frozen 5
        have B2 : Hid (Blk (wr.setCell ⟨w.heap.size + 1, 5, none⟩ (.int .i64 ((kN x.arcs 5 k : Int) + 1))) (w.heap.size + 1) 2 (kCells x.arcs (k + 1))) := hideIt (by
          have := hB.out.set_ 5 (.int .i64 ((kN x.arcs 5 k : Int) + 1))
          simpa [kCells, kN_succ P1.out] using this)
        have G2 := hideIt (HG.out.setCell (p := ⟨w.heap.size + 1, 5, none⟩) (by simp) (.int .i64 ((kN x.arcs 5 k : Int) + 1)))
        go_wp2
        go_roundw
        case rel => exact ⟨k + 1, by omega, by go_num, B2.out, G2.out⟩
        case measure => simp [intOf]; omega
    · obtain rfl : k = x.arcs.length := by omega
      go_wp2
      go_ret
      exact ⟨_, rfl, hB.out, G.out.trans HG.out⟩
end Go.Proofs.YtocahjbmnkadjaaGreatDoor
/-
  What a valid cell is, in plain Lean.
-/
namespace Go.Proofs.YtocahjbmnkadjaaGreatDoor
open Go.RowKit

def sameArc (b a : ArcD) : Prop := b.kind = a.kind ∧ b.src = a.src ∧ b.dst = a.dst
def ArcsP (ps : List PinD) (ar : List ArcD) : Prop := ∀ (k : Nat) (a : ArcD), ar[k]? = some a → sArcB ps a = true ∧ ∀ (j : Nat) (b : ArcD), j < k → ar[j]? = some b → ¬ sameArc b a
def hasB (ar : List ArcD) (k : Int) : Bool := ar.any fun a => decide (a.kind = k)
theorem kN_has (ar : List ArcD) (k : Int) : ∃ n : Int, (kN ar k ar.length : Int) = n ∧ (hasB ar k = true → 0 < n) ∧ (hasB ar k = false → n = 0) := by
  refine ⟨_, rfl, fun h => ?_, fun h => ?_⟩
  · have := kN_pos.2 h
    omega
  · have : ¬ 0 < kN ar k ar.length := fun h2 => by
      have h3 := kN_pos.1 h2
      unfold hasB at h
      rw [h3] at h
      cases h
    omega
def kindB (x : CellD) : Bool :=
  if x.kind = 1 then decide (clkN x.pins x.pins.length = 0) && decide (x.truth.length = 2 ^ (x.pins.length - 1)) && x.truth.all (fun v => inB v 0 1)
  else if x.kind = 2 then decide (clkN x.pins x.pins.length = 1) && decide (x.truth.length = 0) && !hasB x.arcs 1 && (hasB x.arcs 2 != hasB x.arcs 3)
  else if x.kind = 3 then decide (clkN x.pins x.pins.length = 1) && decide (x.truth.length = 0) && hasB x.arcs 1 && hasB x.arcs 2 && !hasB x.arcs 3
  else false
structure CellP (x : CellD) : Prop where
  pins : PinsP x.pins
  name : nameB x.name = true
  arcs : ArcsP x.pins x.arcs
  few : x.arcs.length ≤ 8
  leak : inB x.leak 0 100000 = true
  energy : inB x.energy 0 100000 = true
  ofKind : kindB x = true
noncomputable def cellB (x : CellD) : Bool := pB (CellP x)
theorem sArcB_kind {ps : List PinD} {a : ArcD} (h : sArcB ps a = true) : 1 ≤ a.kind ∧ a.kind ≤ 5 := by
  unfold sArcB at h
  by_cases h1 : a.kind = 1
  · omega
  by_cases h2 : a.kind = 2 ∨ a.kind = 3
  · omega
  by_cases h3 : a.kind = 4 ∨ a.kind = 5
  · omega
  simp [h1, h2, h3] at h
end Go.Proofs.YtocahjbmnkadjaaGreatDoor
/-
  What the program's test of a cell says, in plain Lean, and that it is the reference's.
-/
namespace Go.Proofs.YtocahjbmnkadjaaGreatDoor
open Go.RowKit

theorem clkN_mono (ps : List PinD) {k m : Nat} (h : k ≤ m) : clkN ps k ≤ clkN ps m := by
  unfold clkN
  have e : ps.take k = (ps.take m).take k := by rw [List.take_take, Nat.min_eq_left h]
  rw [e]
  exact ((List.take_sublist k (ps.take m)).filter _).length_le
theorem clkN_one {ps : List PinD} (h : clkN ps ps.length ≤ 1) {i j : Nat} {p q : PinD} (hi : ps[i]? = some p) (hj : ps[j]? = some q) (hp : p.clock = true) (hq : q.clock = true) : i = j := by
  have main : ∀ {i j : Nat} {p q : PinD}, ps[i]? = some p → ps[j]? = some q → p.clock = true → q.clock = true → ¬ i < j := by
    intro i j p q hi hj hp hq hlt
    have a := clkN_succ hi
    have b := clkN_succ hj
    rw [hp] at a
    rw [hq] at b
    have c := clkN_mono ps (k := i + 1) (m := j) hlt
    have d := clkN_mono ps (k := j + 1) (m := ps.length) (List.getElem?_eq_some_iff.1 hj).1
    simp at a b
    omega
  rcases Nat.lt_trichotomy i j with h | h | h
  · exact absurd h (main hi hj hp hq)
  · exact h
  · exact absurd h (main hj hi hq hp)
/-- the first clock pin, -1 if there is none -/
def clkI (ps : List PinD) : Int := idxF (fun p => p.clock) ps
theorem clkI_hit {ps : List PinD} {i : Nat} (h : clkI ps = (i : Int)) : ∃ p, ps[i]? = some p ∧ p.clock = true := by
  unfold clkI idxF at h
  cases hf : ps.findIdx? (fun p => p.clock) with
  | none => rw [hf] at h; simp only at h; omega
  | some m =>
    rw [hf] at h
    simp only at h
    obtain rfl : m = i := by omega
    obtain ⟨hm, hp, -⟩ := List.findIdx?_eq_some_iff_getElem.1 hf
    exact ⟨_, List.getElem?_eq_getElem hm, hp⟩
theorem clkI_lt {ps : List PinD} (h : 0 ≤ clkI ps) : ∃ i : Nat, clkI ps = (i : Int) ∧ i < ps.length ∧ clkAt ps (i : Int) = true := by
  obtain ⟨p, hp, hc⟩ := clkI_hit (ps := ps) (i := (clkI ps).toNat) (by omega)
  exact ⟨(clkI ps).toNat, by omega, (List.getElem?_eq_some_iff.1 hp).1, by rw [clkAt_of hp, hc]⟩
theorem clkI_iff {ps : List PinD} (h : clkN ps ps.length ≤ 1) {i : Nat} (hi : i < ps.length) : ((i : Int) = clkI ps) ↔ clkAt ps (i : Int) = true := by
  have e := List.getElem?_eq_getElem hi
  rw [clkAt_of e]
  constructor
  · intro hc
    obtain ⟨p, hp, hc⟩ := clkI_hit hc.symm
    rw [e] at hp
    injection hp with hp
    rw [hp]; exact hc
  · intro hc
    refine (idxF_hit e hc fun j y hj hy => ?_).symm
    cases hyc : y.clock
    · rfl
    · exact absurd (clkN_one h hy e hyc hc) (by omega)
/-- an arc as the program tests it -/
def iArcB (ps : List PinD) (a : ArcD) : Bool :=
  if a.kind = 4 ∨ a.kind = 5 then decide (a.sense = 0) && decide (a.slew.length = 0) && tablesB a.delay false && decide (a.src = clkI ps) && decide (0 ≤ a.src) && inB a.dst 0 ((ps.length : Int) - 1 - 1) && decide (a.dst ≠ a.src)
  else tablesB a.delay true && tablesB a.slew true && decide (a.dst = (ps.length : Int) - 1) && inB a.src 0 ((ps.length : Int) - 1 - 1) &&
    (if a.kind = 1 then !clkAt ps a.src && inB a.sense 1 3 else if a.kind = 2 ∨ a.kind = 3 then clkAt ps a.src && decide (a.sense = 0) else false)
theorem inB_iff {n lo hi : Int} : inB n lo hi = true ↔ lo ≤ n ∧ n ≤ hi := ⟨inB_true, fun h => inB_mk h.1 h.2⟩
theorem last_no {ps : List PinD} (hp : PinsP ps) {i : Nat} (hi : i + 1 = ps.length) : clkAt ps (i : Int) = false := by
  have e := List.getElem?_eq_getElem (l := ps) (i := i) (by omega)
  rw [clkAt_of e]
  exact ((hp.2.1 _ _ e).2.2.1 hi).2.2
theorem arc_same {ps : List PinD} (hp : PinsP ps) (h : clkN ps ps.length ≤ 1) (a : ArcD) : iArcB ps a = sArcB ps a := by
  have hn := hp.1.1
  rw [Bool.eq_iff_iff]
  unfold iArcB sArcB
  by_cases k45 : a.kind = 4 ∨ a.kind = 5
  · have n1 : ¬ a.kind = 1 := by omega
    have n23 : ¬ (a.kind = 2 ∨ a.kind = 3) := by omega
    simp only [if_pos k45, if_neg n1, if_neg n23, Bool.and_eq_true, decide_eq_true_eq, inB_iff, Bool.not_eq_true']
    constructor
    · rintro ⟨⟨⟨⟨⟨⟨s0, sl⟩, tb⟩, sc⟩, sp⟩, d1, d2⟩, ne⟩
      obtain ⟨i, hi, hil, hic⟩ := clkI_lt (ps := ps) (by omega)
      have hil2 : ¬ i + 1 = ps.length := fun e => by rw [last_no hp e] at hic; cases hic
      refine ⟨⟨⟨by omega, by omega⟩, by omega, by omega⟩, ⟨⟨⟨⟨by rw [sc, hi]; exact hic, by omega⟩, ?_⟩, s0⟩, tb⟩, sl⟩
      obtain ⟨j, hj⟩ : ∃ j : Nat, a.dst = (j : Int) := ⟨a.dst.toNat, by omega⟩
      cases hc : clkAt ps a.dst
      · rfl
      · rw [hj] at hc
        have := (clkI_iff h (by omega)).2 hc
        omega
    · rintro ⟨⟨⟨s1, s2⟩, d1, d2⟩, ⟨⟨⟨⟨cs, dl⟩, cd⟩, s0⟩, tb⟩, sl⟩
      obtain ⟨i, hi⟩ : ∃ i : Nat, a.src = (i : Int) := ⟨a.src.toNat, by omega⟩
      rw [hi] at cs
      have := (clkI_iff h (by omega)).2 cs
      refine ⟨⟨⟨⟨⟨⟨s0, sl⟩, tb⟩, by omega⟩, by omega⟩, by omega, by omega⟩, fun e => ?_⟩
      rw [e, hi, cs] at cd
      cases cd
  · simp only [if_neg k45]
    by_cases n1 : a.kind = 1
    · simp only [if_pos n1, Bool.and_eq_true, decide_eq_true_eq, inB_iff, Bool.not_eq_true']
      constructor
      · rintro ⟨⟨⟨⟨t1, t2⟩, d⟩, s⟩, c, se⟩
        exact ⟨⟨s, by omega, by omega⟩, ⟨⟨⟨c, d⟩, se⟩, t1⟩, t2⟩
      · rintro ⟨⟨s, d1, d2⟩, ⟨⟨⟨c, d⟩, se⟩, t1⟩, t2⟩
        exact ⟨⟨⟨⟨t1, t2⟩, d⟩, s⟩, c, se⟩
    · by_cases n23 : a.kind = 2 ∨ a.kind = 3
      · simp only [if_neg n1, if_pos n23, Bool.and_eq_true, decide_eq_true_eq, inB_iff]
        constructor
        · rintro ⟨⟨⟨⟨t1, t2⟩, d⟩, s⟩, c, se⟩
          exact ⟨⟨s, by omega, by omega⟩, ⟨⟨⟨c, d⟩, se⟩, t1⟩, t2⟩
        · rintro ⟨⟨s, d1, d2⟩, ⟨⟨⟨c, d⟩, se⟩, t1⟩, t2⟩
          exact ⟨⟨⟨⟨t1, t2⟩, d⟩, s⟩, c, se⟩
      · simp [n1, n23]
def iArcsP (ps : List PinD) (ar : List ArcD) : Prop := ∀ (k : Nat) (a : ArcD), ar[k]? = some a → iArcB ps a = true ∧ ∀ (j : Nat) (b : ArcD), j < k → ar[j]? = some b → ¬ sameArc b a
theorem kindB_clk {x : CellD} (h : kindB x = true) : clkN x.pins x.pins.length ≤ 1 := by
  unfold kindB at h
  by_cases k1 : x.kind = 1
  · simp [k1] at h; omega
  by_cases k2 : x.kind = 2
  · simp [k2] at h; omega
  by_cases k3 : x.kind = 3
  · simp [k3] at h; omega
  simp [k1, k2, k3] at h
structure ICellP (x : CellD) : Prop where
  name : nameB x.name = true
  pins : PinsP x.pins
  arcs : iArcsP x.pins x.arcs
  few : x.arcs.length ≤ 8
  leak : inB x.leak 0 100000 = true
  energy : inB x.energy 0 100000 = true
  ofKind : kindB x = true
theorem icell_iff (x : CellD) : ICellP x ↔ CellP x := by
  constructor
  · intro h
    have e := arc_same h.pins (kindB_clk h.ofKind)
    exact ⟨h.pins, h.name, fun k a hk => by rw [← e]; exact h.arcs k a hk, h.few, h.leak, h.energy, h.ofKind⟩
  · intro h
    have e := arc_same h.pins (kindB_clk h.ofKind)
    exact ⟨h.name, h.pins, fun k a hk => by rw [e]; exact h.arcs k a hk, h.few, h.leak, h.energy, h.ofKind⟩
end Go.Proofs.YtocahjbmnkadjaaGreatDoor
