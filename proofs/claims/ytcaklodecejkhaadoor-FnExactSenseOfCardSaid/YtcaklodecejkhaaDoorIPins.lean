/-
  Contract of the program's test of pins.
-/
import Derived.Test.YtcaklodecejkhaaDoorNames
import Derived.Laws.AppendOwn
import Derived.OwnWalk
namespace Go.Proofs.YtcaklodecejkhaaDoor
open Go.RowKit

theorem info_str : (Tryd.prog.info? 9).map (fun i => (i.zero, i.size, i.bytes)) = some (some (.string .empty), 1, 16) := by kernel_rfl
theorem own_strs {w : World} {base : Nat} {v : Value} {xs : List ByteArray} {n : Nat} (hn : n = xs.length) (h : w.ownsRow base 9 1 v n (xs.map (.string ·))) (hz : ∀ x ∈ xs, x.size ≤ maxLen) : RStrs w v xs := by
  subst hn
  obtain ⟨hl, ⟨rfl, h0⟩ | ⟨g, c, cur, rfl, hb', hg, h1, h2, h3, h4⟩⟩ := h
  · have hx : xs = [] := List.eq_nil_of_length_eq_zero h0
    subst hx
    exact ⟨none, 0, rfl, Nat.le_refl _, Nat.zero_le _, .inl rfl⟩
  · have hB : Blk w g 9 cur := hg
    refine ⟨_, c, rfl, h1, h2, .inr ⟨g, 0, rfl, fun i x hx => ⟨[.string x], rfl, fun j u hu => ?_, rfl, hz x (List.mem_of_getElem? hx)⟩⟩⟩
    have hi : i < xs.length := (List.getElem?_eq_some_iff.1 hx).1
    match j, hu with
    | 0, hu =>
      simp at hu
      subst hu
      have h5 : (cur.toList.take (xs.length * 1))[i]? = some (.string x) := by rw [h4, List.getElem?_map, hx]; rfl
      rw [List.getElem?_take_of_lt (by omega)] at h5
      have := hB.cell i
      simpa [this] using h5
def nmV (ps : List PinD) (k : Nat) : List Value := ((ps.take k).map (·.name)).map (.string ·)
theorem nmV_succ {ps : List PinD} {k : Nat} {p : PinD} (h : ps[k]? = some p) : nmV ps (k + 1) = nmV ps k ++ [.string p.name] := by
  unfold nmV
  rw [List.take_add_one, h]
  simp
theorem lengthPin_any {v : Value} {ps : List PinD} {w0 : World} (w : World) (h : RPins w0 v ps) :
    Calls Tryd.prog 62 #[v] w fun e w' => e = .returned (.int .i64 (ps.length : Int)) ∧ w = w' := by
  have hl := RList.len h
  obtain ⟨A, c, rfl, -, -, -⟩ := RList.form h
  clear h
  go_enter Tryd.func62, Tryd.ntmps62
  go_wp2
  go_ret
  exact ⟨rfl, rfl⟩
set_option maxHeartbeats 4000000 in
set_option maxRecDepth 10000 in
theorem arePins_any {v : Value} {ps : List PinD} (w : World) (h : RPins w v ps) (hsm : SmL ps) :
    Calls Tryd.prog 37 #[v] w fun e w' => e = .returned (.bool (pB (PinsP ps))) ∧ Grows w w' := by
  obtain ⟨i0, hi, hz0, hz1, hz2⟩ := info_parts info_str
  have hl := RList.len h
  unfold SmL at hsm
  obtain ⟨A, c, rfl, hle, hcm, hx⟩ := RList.form h
  have HX := hideIt hx
  have HN := hideIt (fun (i : Nat) (p : PinD) (hi : ps[i]? = some p) => (by obtain ⟨b, off, e, cs, hl1, hcs, hr⟩ := hx i p hi; exact hr.2 : p.name.size ≤ maxLen))
  have H := hideIt h
  clear hx h
  go_enter Tryd.func37, Tryd.ntmps37
  go_wp2
  go_loopw [3, 4, 8] (fun s _ i wr => ∃ (nv : Value) (k : Nat), nv = s ∧ k ≤ ps.length ∧ i = .int .i64 (k : Int) ∧ Hid (wr.ownsRow w.heap.size 9 1 nv k (nmV ps k)) ∧ Hid (∀ (j : Nat) (p : PinD), j < k → ps[j]? = some p → inB p.cap 0 500 = true ∧ (j + 1 = ps.length → p.dir = 2 ∧ p.cap = 0 ∧ p.clock = false) ∧ (j + 1 < ps.length → p.dir = 1)) ∧ Grows w wr) (fun _ _ i _ => ps.length - (intOf i).toNat)
  case atStart => exact ⟨_, 0, rfl, by omega, rfl, World.ownsRow_nil _ _ _ _, fun j p hj => absurd hj (by omega), Grows.refl _⟩
  case round =>
    obtain ⟨nv, k, rfl, hk, rfl, hown, hco, hg⟩ := hrel
    have HG := hideIt hg
    clear hg
    by_cases hlt : k < ps.length
    · obtain ⟨p, hp⟩ : ∃ p, ps[k]? = some p := ⟨_, List.getElem?_eq_getElem hlt⟩
      obtain ⟨b, off, rfl, cs, hl1, hcs, hr⟩ := HX.out k p hp
      obtain ⟨d0, d1, d2, d3, rfl⟩ := list4 hl1
      obtain ⟨rfl, rfl, rfl, rfl, -⟩ := hr.parts
      have kp0 : wr.cell? ⟨b, off + k * 4, none⟩ = some (.string p.name) := HG.out.keeps _ _ (by simpa using hcs 0 _ rfl)
      have kp1 : wr.cell? ⟨b, off + k * 4 + 1, none⟩ = some (.int .i64 p.dir) := HG.out.keeps _ _ (by simpa [Nat.add_assoc] using hcs 1 _ rfl)
      have kp2 : wr.cell? ⟨b, off + k * 4 + 2, none⟩ = some (.int .i64 p.cap) := HG.out.keeps _ _ (by simpa [Nat.add_assoc] using hcs 2 _ rfl)
      have kp3 : wr.cell? ⟨b, off + k * 4 + 3, none⟩ = some (.bool p.clock) := HG.out.keeps _ _ (by simpa [Nat.add_assoc] using hcs 3 _ rfl)
      have P1 := hideIt hp
      clear hcs hl1 hr hp
      have own1 := hideIt ((hown.out.alloc (.cells #[.string p.name, .int .i64 p.dir, .int .i64 p.cap, .bool p.clock] 80)).alloc (.cells #[.string p.name] 9))
      have G2 := hideIt ((HG.out.alloc (.cells #[.string p.name, .int .i64 p.dir, .int .i64 p.cap, .bool p.clock] 80)).alloc (.cells #[.string p.name] 9))
      have BV := hideIt ((Blk.new wr 80 #[.string p.name, .int .i64 p.dir, .int .i64 p.cap, .bool p.clock]).grows ((Grows.refl _).alloc (.cells #[.string p.name] 9)))
      have nlt : Hid (∀ q, nv.ownBlock = some q → w.heap.size ≤ q ∧ q < wr.heap.size) := hideIt hown.out.lt
      go_wp2_with (at_builtin; refine wpList_append_own _ rfl _ _ 86 rfl w.heap.size 9 i0 (.string .empty) 1 16 Tryd.underlying86 hi hz0 hz1 hz2 rfl (by decide) nv k (nmV ps k) rfl own1.out ⟨wr.heap.size + 1, 0, none⟩ 1 1 [.string p.name] rfl ?c1 ?c2 ?c3 ?c4 ?c5 ?c6 ?_)
      case c1 => simp
      case c2 =>
        intro j u hj
        match j, hj with
        | 0, hj => simp at hj; subst hj; simp [Addr.add]
      case c3 => intro u hu; simp at hu; subst hu; rfl
      case c4 => unfold maxLen; omega
      case c5 => omega
      case c6 => exact G2.out.size
      intro v' w1 hown2 hgrow hnil
      have G3 := hideIt (G2.out.grown hgrow (fun q e => (nlt.out q e).1))
      have hne : some wr.heap.size ≠ nv.ownBlock := fun e => by have := (nlt.out _ e.symm).2; omega
      have lw1 : wr.heap.size < w1.heap.size := by have := hgrow.size; simp at this; omega
      have kv0 : w1.cell? ⟨wr.heap.size, 0, none⟩ = some (.string p.name) := hgrow.cell (BV.out.cell 0) hne
      have kv1 : w1.cell? ⟨wr.heap.size, 1, none⟩ = some (.int .i64 p.dir) := hgrow.cell (BV.out.cell 1) hne
      have kv2 : w1.cell? ⟨wr.heap.size, 2, none⟩ = some (.int .i64 p.cap) := hgrow.cell (BV.out.cell 2) hne
      have kv3 : w1.cell? ⟨wr.heap.size, 3, none⟩ = some (.bool p.clock) := hgrow.cell (BV.out.cell 3) hne
      have OW := hideIt (show w1.ownsRow w.heap.size 9 1 v' (k + 1) (nmV ps (k + 1)) by rw [nmV_succ P1.out]; exact hown2)
      clear hown2 hgrow hnil hne kp0 kp1 kp2 kp3 BV own1
      have OKN : Hid ((inB p.cap 0 500 = true ∧ (k + 1 = ps.length → p.dir = 2 ∧ p.cap = 0 ∧ p.clock = false) ∧ (k + 1 < ps.length → p.dir = 1)) → Hid (∀ (j : Nat) (r : PinD), j < k + 1 → ps[j]? = some r → inB r.cap 0 500 = true ∧ (j + 1 = ps.length → r.dir = 2 ∧ r.cap = 0 ∧ r.clock = false) ∧ (j + 1 < ps.length → r.dir = 1))) := hideIt fun h j r hj hr => by
        by_cases ej : j = k
        · subst ej
          rw [P1.out] at hr
          injection hr with hr
          subst hr
          exact h
        · exact hco.out j r (by omega) hr
      have BAD : Hid (¬ (inB p.cap 0 500 = true ∧ (k + 1 = ps.length → p.dir = 2 ∧ p.cap = 0 ∧ p.clock = false) ∧ (k + 1 < ps.length → p.dir = 1)) → pB (PinsP ps) = false) := hideIt fun h => pB_false fun hp => h (hp.2.1 _ p P1.out).2
      by_cases hla : k + 1 = ps.length
      · by_cases hd : p.dir = 2
        rotate_left
        · have EP := hideIt (BAD.out (fun h => hd (h.2.1 hla).1))
          go_wp2
          go_ret
          exact ⟨ret_bool EP.out.symm, G3.out⟩
        by_cases hc0 : p.cap = 0
        rotate_left
        · have EP := hideIt (BAD.out (fun h => hc0 (h.2.1 hla).2.1))
          go_wp2
          go_ret
          exact ⟨ret_bool EP.out.symm, G3.out⟩
        cases hk0 : p.clock
        · have OK1 := hideIt (OKN.out ⟨by rw [hc0]; decide, fun _ => ⟨hd, hc0, hk0⟩, fun h => by omega⟩)
          go_wp2
          go_roundw
          case rel => exact ⟨_, k + 1, rfl, by omega, by go_num, OW.out, OK1.out, G3.out⟩
          case measure => simp [intOf]; omega
        · have EP := hideIt (BAD.out (fun h => by have := (h.2.1 hla).2.2; rw [hk0] at this; cases this))
          go_wp2
          go_ret
          exact ⟨ret_bool EP.out.symm, G3.out⟩
      · have hlb : k + 1 < ps.length := by omega
        by_cases hd : p.dir = 1
        rotate_left
        · have EP := hideIt (BAD.out (fun h => hd (h.2.2 hlb)))
          go_wp2
          go_ret
          exact ⟨ret_bool EP.out.symm, G3.out⟩
        cases hcp : inB p.cap 0 500
        · have CP := hideIt hcp
          have EP := hideIt (BAD.out (fun h => by have := h.1; rw [hcp] at this; cases this))
          clear hcp
          go_wp2_with (go_at_call 39; refine (within_any _ _ _ _).mono ?_; rintro e w' ⟨rfl, rfl⟩; rw [CP.out])
          go_ret
          exact ⟨ret_bool EP.out.symm, G3.out⟩
        · have CP := hideIt hcp
          have OK1 := hideIt (OKN.out ⟨hcp, fun h => by omega, fun _ => hd⟩)
          clear hcp
          go_wp2_with (go_at_call 39; refine (within_any _ _ _ _).mono ?_; rintro e w' ⟨rfl, rfl⟩; rw [CP.out])
          go_roundw
          case rel => exact ⟨_, k + 1, rfl, by omega, by go_num, OW.out, OK1.out, G3.out⟩
          case measure => simp [intOf]; omega
    · obtain rfl : k = ps.length := by omega
      have RS := hideIt (own_strs (n := ps.length) (base := w.heap.size) (xs := ps.map (·.name)) (by simp) (by have := hown.out; unfold nmV at this; rw [List.take_length] at this; exact this) (fun x hx => by
        obtain ⟨p, hp, rfl⟩ := List.mem_map.1 hx
        obtain ⟨i, hi⟩ := List.getElem?_of_mem hp
        exact HN.out i p hi))
      have EQ : Hid (pB (PinsP ps) = (inB (ps.length : Int) 2 5 && pB (NamesP (ps.map (·.name))))) := hideIt (by
        cases hn : inB (ps.length : Int) 2 5
        · rw [Bool.false_and]
          exact pB_false fun h => by have := inB_false hn; have := h.1; omega
        · rw [Bool.true_and]
          have hn2 := inB_true hn
          refine pB_congr ⟨fun h => ⟨fun i s hs => ?_, fun i j s u hij hs hu => ?_⟩, fun h => ⟨by omega, fun i p hp => ⟨h.1 i _ (by rw [List.getElem?_map, hp]; rfl), hco.out i p (List.getElem?_eq_some_iff.1 hp).1 hp⟩, fun i j p q hij hp hq => h.2 i j _ _ hij (by rw [List.getElem?_map, hp]; rfl) (by rw [List.getElem?_map, hq]; rfl)⟩⟩
          · rw [List.getElem?_map] at hs
            obtain ⟨p, hp, rfl⟩ := Option.map_eq_some_iff.1 hs
            exact (h.2.1 i p hp).1
          · rw [List.getElem?_map] at hs hu
            obtain ⟨p, hp, rfl⟩ := Option.map_eq_some_iff.1 hs
            obtain ⟨q, hq, rfl⟩ := Option.map_eq_some_iff.1 hu
            exact h.2.2 i j p q hij hp hq)
      clear hco hown
      cases hn : inB (ps.length : Int) 2 5
      · have EP := hideIt (EQ.out.trans (by rw [hn, Bool.false_and]))
        have CN := hideIt hn
        clear hn
        go_wp2_with (first | (go_at_call 62; refine (lengthPin_any _ H.out).mono ?_; rintro e w' ⟨rfl, rfl⟩) | (go_at_call 39; refine (within_any _ _ _ _).mono ?_; rintro e w' ⟨rfl, rfl⟩; rw [CN.out]))
        go_ret
        exact ⟨ret_bool EP.out.symm, HG.out⟩
      · have EP := hideIt (EQ.out.trans (by rw [hn, Bool.true_and]))
        have CN := hideIt hn
        clear hn
        go_wp2_with (first | (go_at_call 62; refine (lengthPin_any _ H.out).mono ?_; rintro e w' ⟨rfl, rfl⟩) | (go_at_call 39; refine (within_any _ _ _ _).mono ?_; rintro e w' ⟨rfl, rfl⟩; rw [CN.out]))
        refine (areNames_any _ RS.out).mono ?_
        rintro e w2 ⟨rfl, g2⟩
        obtain ⟨q, eq⟩ : ∃ q, q = pB (NamesP (ps.map (·.name))) := ⟨_, rfl⟩
        rw [← eq]
        have EQ2 := hideIt (EP.out.trans eq.symm)
        have G4 := hideIt (HG.out.trans g2)
        clear g2 eq
        go_wp2
        go_ret
        exact ⟨ret_bool EQ2.out.symm, G4.out⟩
end Go.Proofs.YtcaklodecejkhaaDoor
