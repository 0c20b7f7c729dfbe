/-
  A struct and the slices of it: owned, small, its budget, copy and equality.
-/
import Derived.Test.YtcaklodecejkhaaDoorPinT
import Derived.Test.YtcaklodecejkhaaDoorTab
namespace Go.Proofs.YtcaklodecejkhaaDoor
open Go.RowKit

theorem OTable.shape {w : World} {a b c : Value} {t : TableD} {bs : List Nat} (h : OTable w [a, b, c] t bs) : (∃ (A : Option Addr) (n : Nat), a = .slice A t.slews.length n) ∧ (∃ (A : Option Addr) (n : Nat), b = .slice A t.loads.length n) ∧ (∃ (A : Option Addr) (n : Nat), c = .slice A t.values.length n) := h.reads.shape
theorem toTable_o {a b c : Value} {t : TableD} (w : World) (h : RTable w [a, b, c] t) (hs : SmTable t) :
    Calls Tryd.prog 94 #[.agg #[a, b, c]] w fun e w' => ∃ (x y z : Value) (bs : List Nat), e = .returned (.agg #[x, y, z]) ∧ OTable w' [x, y, z] t bs ∧ Own w.heap.size w'.heap.size bs ∧ Grows w w' := toTable_any w h hs
def OTables : World → Value → List TableD → List Nat → Prop := OList 3 101 OTable
def SmTables (xs : List TableD) : Prop := SmL xs ∧ ∀ x ∈ xs, SmTable x
theorem OTables.reads {w : World} {v : Value} {xs : List TableD} {bs : List Nat} (h : OTables w v xs bs) : RTables w v xs := OList.reads h fun _ _ _ h => h.reads
theorem OTables.same {w w' : World} {v : Value} {xs : List TableD} {bs : List Nat} (h : OTables w v xs bs) (g : SameOn bs w w') : OTables w' v xs bs := OList.same h g fun _ _ _ h g => h.same g
theorem OTables.lt {w : World} {v : Value} {xs : List TableD} {bs : List Nat} (h : OTables w v xs bs) : ∀ g ∈ bs, g < w.heap.size := OList.lt h fun _ _ _ h => h.lt
theorem info_Table : (Tryd.prog.info? 101).map (fun i => (i.zero, i.size)) = some (some (.agg #[.slice none 0 0, .slice none 0 0, .slice none 0 0]), 3) := by kernel_rfl
theorem bytes_Table : ∀ i, Tryd.prog.info? 101 = some i → i.bytes ≤ 256 := by
  intro i hi
  have h : (Tryd.prog.info? 101).map (fun i => decide (i.bytes ≤ 256)) = some true := by kernel_rfl
  rw [hi] at h
  simpa using h
set_option maxHeartbeats 4000000 in
theorem toTables_o {v : Value} {xs : List TableD} (w : World) (h : RTables w v xs) (hn : SmTables xs) :
    Calls Tryd.prog 77 #[v] w fun e w' => ∃ (A : Option Addr) (c : Nat) (bs : List Nat), e = .returned (.slice A xs.length c) ∧ OTables w' (.slice A xs.length c) xs bs ∧ Own w.heap.size w'.heap.size bs ∧ Grows w w' := by
  obtain ⟨i0, hi, hzz⟩ := Option.map_eq_some_iff.1 info_Table
  simp only [Prod.mk.injEq] at hzz
  obtain ⟨hz0, hz1⟩ := hzz
  have hbt := bytes_Table i0 hi
  obtain ⟨hn1, hn2⟩ := hn
  unfold SmL at hn1
  have hmk : ∀ u : World, (Instr.makeSlice 53 (.int .i64 (xs.length : Int)) (.int .i64 (xs.length : Int))).run Tryd.prog u =
      .ok (.slice (some ⟨u.heap.size, 0, none⟩) xs.length xs.length) (u.alloc (.cells (madeCells #[.slice none 0 0, .slice none 0 0, .slice none 0 0] (xs.length * 3)) 101)) := fun u => by
    have h := run_make (P := Tryd.prog) u 53 101 i0 (.agg #[.slice none 0 0, .slice none 0 0, .slice none 0 0]) Tryd.underlying53 hi hz0 .i64 .i64 (xs.length : Int) (xs.length : Int) (by omega) (Int.le_refl _) (by have h5 := Nat.mul_le_mul hbt hn1; have e : (i0.bytes : Int) * (xs.length : Int) = ((i0.bytes * xs.length : Nat) : Int) := (Int.natCast_mul _ _).symm; rw [e]; omega) (by omega)
    simpa [hz1, Value.cells] using h
  obtain ⟨A, c, rfl, hle, hc, hx⟩ := h.form
  have HX := hideIt hx
  have HN := hideIt hn2
  clear hx hi hz0 hz1 hbt h hn2
  go_enter Tryd.func77, Tryd.ntmps77
  go_wp2
  go_loopw [4] (fun i wr => ∃ k : Nat, k ≤ xs.length ∧ i = .int .i64 k ∧ CopyG 3 101 OTable w wr xs k) (fun i _ => xs.length - (intOf i).toNat)
  case atStart => exact ⟨0, Nat.zero_le _, rfl, CopyG.start _ (Blk.new _ _ _) (by simp [size_madeCells]) ((Grows.refl _).alloc _)⟩
  case round =>
    obtain ⟨k, hk, rfl, hco⟩ := hrel
    by_cases hlt : k < xs.length
    · obtain ⟨x, hx⟩ : ∃ x, xs[k]? = some x := ⟨_, List.getElem?_eq_getElem hlt⟩
      obtain ⟨b, off, rfl, cs, hl1, hcs, hr⟩ := HX.out k x hx
      obtain ⟨c0, c1, c2, rfl⟩ := list3 hl1
      have HST := hideIt (fun u es b => CopyG.step (u := u) (es := es) (b := b) hco (fun _ _ _ _ _ h g => OTable.same h g) hx)
      have SX := hideIt (HN.out x (List.mem_of_getElem? hx))
      obtain ⟨ds, bss, hb, hsz, -, -, hg, -⟩ := hco
      have HR : Hid (RTable wr [c0, c1, c2] x) := hideIt (hr.keep hg.keeps)
      have hs0 : wr.cell? ⟨b, off + k * 3, none⟩ = some c0 := by simpa [Nat.add_assoc] using hg.keeps _ _ (hcs 0 _ rfl)
      have hs1 : wr.cell? ⟨b, off + k * 3 + 1, none⟩ = some c1 := by simpa [Nat.add_assoc] using hg.keeps _ _ (hcs 1 _ rfl)
      have hs2 : wr.cell? ⟨b, off + k * 3 + 2, none⟩ = some c2 := by simpa [Nat.add_assoc] using hg.keeps _ _ (hcs 2 _ rfl)
      have HB := hideIt hb
      have hmul : k * 3 + 3 ≤ ds.size := by rw [hsz]; omega
      clear hcs hl1 hx hr hb hsz hmk hg
      go_wp2_with fail
      refine (toTable_o _ HR.out SX.out).mono ?_
      rintro e u ⟨y0, y1, y2, bb, rfl, ho, ow, g⟩
      obtain ⟨⟨A0, m0, rfl⟩, ⟨A1, m1, rfl⟩, ⟨A2, m2, rfl⟩⟩ := ho.shape
      have st := hideIt (HST.out u _ bb g ho ow rfl)
      have hbu := HB.out.grows g
      have hf := hbu.frozen
      obtain ⟨o0, hd0⟩ : ∃ o, u.cell? ⟨w.heap.size, k * 3, none⟩ = some o := ⟨_, by rw [hbu.cell]; exact Array.getElem?_eq_getElem (by omega)⟩
      obtain ⟨o1, hd1⟩ : ∃ o, u.cell? ⟨w.heap.size, k * 3 + 1, none⟩ = some o := ⟨_, by rw [hbu.cell]; exact Array.getElem?_eq_getElem (by omega)⟩
      obtain ⟨o2, hd2⟩ : ∃ o, u.cell? ⟨w.heap.size, k * 3 + 2, none⟩ = some o := ⟨_, by rw [hbu.cell]; exact Array.getElem?_eq_getElem (by omega)⟩
      clear hbu ho ow g HST HB HR
      go_wp2
      go_roundw
      case rel => exact ⟨k + 1, by omega, by go_num, st.out⟩
      case measure => simp [intOf]; omega
    · have hk2 : k = xs.length := by omega
      subst hk2
      have H := hideIt hco
      clear hco hmk
      go_wp2
      go_ret
      obtain ⟨bs, h1, h2, h3⟩ := H.out.done (by unfold maxLen; omega)
      exact ⟨_, _, bs, rfl, h1, h2, h3⟩
theorem toTables_any {v : Value} {xs : List TableD} (w : World) (h : RTables w v xs) (hn : SmTables xs) :
    Calls Tryd.prog 77 #[v] w fun e w' => ∃ (v' : Value) (bs : List Nat), e = .returned v' ∧ OTables w' v' xs bs ∧ Own w.heap.size w'.heap.size bs ∧ Grows w w' :=
  (toTables_o w h hn).mono fun _ _ ⟨_, _, bs, he, h⟩ => ⟨_, bs, he, h⟩
set_option maxHeartbeats 4000000 in
theorem eqTables_same {v1 v2 : Value} {xs : List TableD} (w : World) (h1 : RTables w v1 xs) (h2 : RTables w v2 xs) :
    Calls Tryd.prog 90 #[v1, v2] w fun e w' => e = .returned (.bool true) ∧ Grows w w' := by
  have l1 := h1.len
  obtain ⟨A, c, rfl, hle, hc, hx⟩ := h1.form
  obtain ⟨A2, c2, rfl, hle2, hc2, hy⟩ := h2.form
  have HX := hideIt hx
  have HY := hideIt hy
  have hb : ((xs.length : Int) != (xs.length : Int)) = false := by simp
  clear hx hy h1 h2 hle hle2 hc hc2
  go_enter Tryd.func90, Tryd.ntmps90
  go_wp2
  go_loopw [5] (fun i wr => ∃ k : Nat, k ≤ xs.length ∧ i = .int .i64 k ∧ Grows w wr) (fun i _ => xs.length - (intOf i).toNat)
  case atStart => exact ⟨0, Nat.zero_le _, rfl, Grows.refl _⟩
  case round =>
    obtain ⟨k, hk, rfl, hg⟩ := hrel
    by_cases hlt : k < xs.length
    · obtain ⟨x, hx⟩ : ∃ x, xs[k]? = some x := ⟨_, List.getElem?_eq_getElem hlt⟩
      obtain ⟨b, off, rfl, cs, hl1, hcs, hr⟩ := HX.out k x hx
      obtain ⟨b2, off2, rfl, cs2, hl2, hcs2, hr2⟩ := HY.out k x hx
      obtain ⟨c0, c1, c2, rfl⟩ := list3 hl1
      obtain ⟨d0, d1, d2, rfl⟩ := list3 hl2
      have HR : Hid (RTable wr [c0, c1, c2] x) := hideIt (hr.keep hg.keeps)
      have HR2 : Hid (RTable wr [d0, d1, d2] x) := hideIt (hr2.keep hg.keeps)
      have zc0 : wr.cell? ⟨b, off + k * 3, none⟩ = some c0 := by simpa [Nat.add_assoc] using hg.keeps _ _ (hcs 0 _ rfl)
      have zc1 : wr.cell? ⟨b, off + k * 3 + 1, none⟩ = some c1 := by simpa [Nat.add_assoc] using hg.keeps _ _ (hcs 1 _ rfl)
      have zc2 : wr.cell? ⟨b, off + k * 3 + 2, none⟩ = some c2 := by simpa [Nat.add_assoc] using hg.keeps _ _ (hcs 2 _ rfl)
      have zd0 : wr.cell? ⟨b2, off2 + k * 3, none⟩ = some d0 := by simpa [Nat.add_assoc] using hg.keeps _ _ (hcs2 0 _ rfl)
      have zd1 : wr.cell? ⟨b2, off2 + k * 3 + 1, none⟩ = some d1 := by simpa [Nat.add_assoc] using hg.keeps _ _ (hcs2 1 _ rfl)
      have zd2 : wr.cell? ⟨b2, off2 + k * 3 + 2, none⟩ = some d2 := by simpa [Nat.add_assoc] using hg.keeps _ _ (hcs2 2 _ rfl)
      have K0 : ∀ w', Grows wr w' → w'.cell? ⟨b, off + k * 3, none⟩ = some c0 ∧ w'.cell? ⟨b, off + k * 3 + 1, none⟩ = some c1 ∧ w'.cell? ⟨b, off + k * 3 + 2, none⟩ = some c2 ∧ w'.cell? ⟨b2, off2 + k * 3, none⟩ = some d0 ∧ w'.cell? ⟨b2, off2 + k * 3 + 1, none⟩ = some d1 ∧ w'.cell? ⟨b2, off2 + k * 3 + 2, none⟩ = some d2 ∧ Grows wr w' := fun w' G => ⟨G.keeps _ _ zc0, G.keeps _ _ zc1, G.keeps _ _ zc2, G.keeps _ _ zd0, G.keeps _ _ zd1, G.keeps _ _ zd2, G⟩
      have HK := hideIt K0
      have HG := hideIt hg
      have gg : Grows wr wr := Grows.refl _
      clear K0 hcs hcs2 hl1 hl2 hr hr2 hx hg
      go_wp2_with fail
      go_region_held3 (fun w' => w'.cell? ⟨b, off + k * 3, none⟩ = some c0 ∧ w'.cell? ⟨b, off + k * 3 + 1, none⟩ = some c1 ∧ w'.cell? ⟨b, off + k * 3 + 2, none⟩ = some c2 ∧ w'.cell? ⟨b2, off2 + k * 3, none⟩ = some d0 ∧ w'.cell? ⟨b2, off2 + k * 3 + 1, none⟩ = some d1 ∧ w'.cell? ⟨b2, off2 + k * 3 + 2, none⟩ = some d2 ∧ Grows wr w')
        ((refine HK.out _ ?_; (repeat (first | exact gg | refine Grows.drew ?_ | refine Grows.alloc ?_ _ | refine Grows.setCell ?_ (by simp <;> omega) _))))
        (first | (go_at_call 105; refine (eqTable_same _ (HR.out.keep (Grows.keeps (by (repeat (first | exact gg | refine Grows.drew ?_))))) (HR2.out.keep (Grows.keeps (by (repeat (first | exact gg | refine Grows.drew ?_)))))).mono ?_; rintro e wx ⟨rfl, g⟩; replace gg : Grows wr wx := Grows.trans (by (repeat (first | exact gg | refine Grows.drew ?_))) g))
      all_goals go_split_ands
      all_goals go_wp2
      all_goals go_roundw
      all_goals first
        | (case rel => exact ⟨k + 1, by omega, by go_num, HG.out.trans (by repeat (first | exact gg | refine Grows.drew ?_))⟩)
        | (simp [intOf]; omega)
    · have hk2 : k = xs.length := by omega
      subst hk2
      go_wp2
      go_ret
      exact ⟨rfl, hg⟩
set_option maxHeartbeats 2000000 in
theorem szTables_any {v : Value} {xs : List TableD} (left : Int) (w : World) (h : RTables w v xs) (h1 : 0 ≤ left) (h2 : left ≤ 1048576) :
    Calls Tryd.prog 75 #[v, .int .i64 left] w (SzPost (SmTables xs) w) := by
  have hl := h.len
  obtain ⟨A, c, rfl, hle, hc, hx⟩ := h.form
  have HX := hideIt hx
  clear hx h hle hc
  by_cases hlt : left - xs.length < 0
  · go_enter Tryd.func75, Tryd.ntmps75
    go_wp2
    go_ret
    exact ⟨_, rfl, by omega, by omega, fun h => absurd h (by omega), Grows.refl _⟩
  · go_enter Tryd.func75, Tryd.ntmps75
    go_wp2
    go_loopw [1, 5] (fun l i wr => ∃ (k : Nat) (r : Int), k ≤ xs.length ∧ l = .int .i64 r ∧ i = .int .i64 (k : Int) ∧ 0 ≤ r ∧ r ≤ 1048576 ∧ Hid (∀ (j : Nat) (x : TableD), j < k → xs[j]? = some x → SmTable x) ∧ Grows w wr) (fun _ i _ => xs.length - (intOf i).toNat)
    case atStart => exact ⟨0, left - xs.length, Nat.zero_le _, rfl, rfl, by omega, by omega, fun j x hj => absurd hj (by omega), Grows.refl _⟩
    case round =>
      obtain ⟨k, r, hk, rfl, rfl, hr0, hr1, hco, hg⟩ := hrel
      by_cases hk1 : k < xs.length
      · obtain ⟨x, hx⟩ : ∃ x, xs[k]? = some x := ⟨_, List.getElem?_eq_getElem hk1⟩
        obtain ⟨b, off, rfl, cs, hl1, hcs, hr⟩ := HX.out k x hx
        obtain ⟨c0, c1, c2, rfl⟩ := list3 hl1
        have HR : Hid (RTable wr [c0, c1, c2] x) := hideIt (hr.keep hg.keeps)
        have hs0 : wr.cell? ⟨b, off + k * 3, none⟩ = some c0 := by simpa [Nat.add_assoc] using hg.keeps _ _ (hcs 0 _ rfl)
        have hs1 : wr.cell? ⟨b, off + k * 3 + 1, none⟩ = some c1 := by simpa [Nat.add_assoc] using hg.keeps _ _ (hcs 1 _ rfl)
        have hs2 : wr.cell? ⟨b, off + k * 3 + 2, none⟩ = some c2 := by simpa [Nat.add_assoc] using hg.keeps _ _ (hcs 2 _ rfl)
        have X1 := hideIt hx
        have HG := hideIt hg
        clear hcs hl1 hx hr hg
        go_wp2_with fail
        refine (szTable_any _ _ HR.out hr0 hr1).mono ?_
        rintro e u ⟨r2, rfl, p1, p2, sm, g⟩
        have SM := hideIt sm
        have GU := hideIt (HG.out.trans g)
        clear sm g HG HR
        by_cases n1 : r2 < 0
        · go_wp2
          go_ret
          exact ⟨-1, rfl, by omega, by omega, fun h => absurd h (by omega), GU.out⟩
        · go_wp2
          go_roundw
          case rel => exact ⟨k + 1, r2, by omega, rfl, by go_num, by omega, by omega, fun j y hj hy => by
            by_cases e : j = k
            · subst e; rw [X1.out] at hy; injection hy with hy; rw [← hy]; exact SM.out (by omega)
            · exact hco.out j y (by omega) hy, GU.out⟩
          case measure => simp [intOf]; omega
      · have hk2 : k = xs.length := by omega
        subst hk2
        have HC := hideIt hco.out
        clear hco
        go_wp2
        go_ret
        exact ⟨_, rfl, by omega, by omega, fun _ => ⟨by unfold SmL; omega, fun x hx => by obtain ⟨i, hi⟩ := List.getElem?_of_mem hx; exact HC.out i x (lt_of_at hi) hi⟩, hg⟩
end Go.Proofs.YtcaklodecejkhaaDoor
