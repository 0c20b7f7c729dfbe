/-
  Contracts of slices.Min and slices.Max over integers.
-/
import Derived.Test.YtocahjbmnkadjaaGreatDoorGA
import Derived.Laws.ResultCell
import Derived.Test.YtocahjbmnkadjaaGreatDoorGC
namespace Go.Proofs.YtocahjbmnkadjaaGreatDoor
open Go.RowKit

def minTo (xs : List Int) (k : Nat) : Int := (xs.take k).foldl min (xs.headD 0)
def maxTo (xs : List Int) (k : Nat) : Int := (xs.take k).foldl max (xs.headD 0)
def minL (xs : List Int) : Int := minTo xs xs.length
def maxL (xs : List Int) : Int := maxTo xs xs.length
theorem take_succ' {xs : List Int} {k : Nat} {x : Int} (h : xs[k]? = some x) : xs.take (k + 1) = xs.take k ++ [x] := by
  rw [List.take_add_one, h]; rfl
theorem minTo_succ {xs : List Int} {k : Nat} {x : Int} (h : xs[k]? = some x) : minTo xs (k + 1) = if x < minTo xs k then x else minTo xs k := by
  unfold minTo
  rw [take_succ' h, List.foldl_append]
  simp only [List.foldl_cons, List.foldl_nil]
  split <;> omega
theorem maxTo_succ {xs : List Int} {k : Nat} {x : Int} (h : xs[k]? = some x) : maxTo xs (k + 1) = if maxTo xs k < x then x else maxTo xs k := by
  unfold maxTo
  rw [take_succ' h, List.foldl_append]
  simp only [List.foldl_cons, List.foldl_nil]
  split <;> omega
theorem minTo_one {xs : List Int} {x : Int} (h : xs[0]? = some x) : minTo xs 1 = x := by
  cases xs with
  | nil => simp at h
  | cons a r => simp at h; subst h; simp [minTo]
theorem maxTo_one {xs : List Int} {x : Int} (h : xs[0]? = some x) : maxTo xs 1 = x := by
  cases xs with
  | nil => simp at h
  | cons a r => simp at h; subst h; simp [maxTo]
set_option maxHeartbeats 1000000 in
theorem min_any {v : Value} {xs : List Int} (w : World) (h : RInts w v xs) (hn : 1 ≤ xs.length) :
    Calls Tryz.prog 161 #[v] w fun e w' => e = .returned (.int .i64 (minL xs)) ∧ w = w' := by
  have hl := h.len
  obtain ⟨A, c, rfl, hle, hc, hx⟩ := h.form
  have HX := hideIt hx
  obtain ⟨x0, h0⟩ : ∃ x, xs[0]? = some x := ⟨_, List.getElem?_eq_getElem (by omega)⟩
  obtain ⟨b, off, rfl, cs, hl1, hcs, hr⟩ := hx 0 x0 h0
  unfold RI at hr
  subst hr
  have hs : w.cell? ⟨b, off, none⟩ = some (.int .i64 x0) := by simpa using hcs 0 _ rfl
  have X0 := hideIt h0
  have E : Hid (minL xs = minTo xs xs.length) := rfl
  clear hx h hle hc h0 hcs hl1
  go_enter Tryz.func161, Tryz.ntmps161
  go_wp2
  go_loop [3, 4] (fun m i => ∃ k : Nat, 1 ≤ k ∧ k ≤ xs.length ∧ i = .int .i64 (k : Int) ∧ m = .int .i64 (minTo xs k)) (fun _ i => xs.length - (intOf i).toNat)
  case atStart => exact ⟨1, Nat.le_refl _, hn, rfl, by rw [minTo_one X0.out]⟩
  case round =>
    obtain ⟨k, hk0, hk, rfl, rfl⟩ := hrel
    by_cases hlt : k < xs.length
    · obtain ⟨x, hx⟩ : ∃ x, xs[k]? = some x := ⟨_, List.getElem?_eq_getElem hlt⟩
      obtain ⟨b', off', he, cs, hl1, hcs, hr⟩ := HX.out k x hx
      injection he with he
      injection he with he1 he2
      subst he1 he2
      unfold RI at hr
      subst hr
      have hs2 : w.cell? ⟨b, off + k, none⟩ = some (.int .i64 x) := by simpa using hcs 0 _ rfl
      have X1 := hideIt (minTo_succ hx)
      clear hcs hl1 hx
      go_wp2
      go_round
      case rel => exact ⟨k + 1, by omega, by omega, by go_num, by rw [X1.out]⟩
      case measure => simp [intOf]; omega
    · have hk2 : k = xs.length := by omega
      subst hk2
      go_wp2
      go_ret
      exact ⟨ret_int E.out.symm, rfl⟩
end Go.Proofs.YtocahjbmnkadjaaGreatDoor
/-
  Contracts of IsMonotone, the reference's and the program's.
-/
namespace Go.Proofs.YtocahjbmnkadjaaGreatDoor
open Go.RowKit

def monOk (n : Nat) (vs : List Int) (i : Nat) : Bool := (decide (i % n = 0) || decide (vs.getD (i - 1) 0 ≤ vs.getD i 0)) && (decide (i < n) || decide (vs.getD (i - n) 0 ≤ vs.getD i 0))
def monB (t : TableD) : Bool := tabB t && (List.range t.values.length).all (monOk t.loads.length t.values)
theorem monB_no {t : TableD} {k : Nat} (hk : k < t.values.length) (h : monOk t.loads.length t.values k = false) : monB t = false := by
  unfold monB
  rw [Bool.and_eq_false_iff]
  right
  rw [List.all_eq_false]
  exact ⟨k, List.mem_range.2 hk, by simp [h]⟩
theorem monB_mk {t : TableD} (ht : tabB t = true) (h : ∀ k, k < t.values.length → monOk t.loads.length t.values k = true) : monB t = true := by
  unfold monB
  rw [ht, Bool.true_and, List.all_eq_true]
  exact fun k hk => h k (List.mem_range.1 hk)
theorem monOk_no1 {n : Nat} {vs : List Int} {k : Nat} {x y : Int} (hm : (0 : Int) < (k : Int) % (n : Int)) (hx : vs[k]? = some x) (hy : vs[k - 1]? = some y) (h : x < y) : monOk n vs k = false := by
  have : ¬ k % n = 0 := by
    intro e
    have e2 : ((k % n : Nat) : Int) = 0 := by rw [e]; rfl
    rw [Int.natCast_emod] at e2
    omega
  simp [monOk, List.getD, hx, hy, this]
  omega
theorem monOk_no2 {n : Nat} {vs : List Int} {k : Nat} {x y : Int} (hm : n ≤ k) (hx : vs[k]? = some x) (hy : vs[k - n]? = some y) (h : x < y) : monOk n vs k = false := by
  simp [monOk, List.getD, hx, hy]
  omega
theorem monOk_yes {n : Nat} {vs : List Int} {k : Nat} {x : Int} (hx : vs[k]? = some x) (h1 : ¬ (0 : Int) < (k : Int) % (n : Int) ∨ ∃ y, vs[k - 1]? = some y ∧ y ≤ x) (h2 : k < n ∨ ∃ y, vs[k - n]? = some y ∧ y ≤ x) : monOk n vs k = true := by
  have g1 : k % n = 0 ∨ vs.getD (k - 1) 0 ≤ vs.getD k 0 := by
    rcases h1 with h1 | ⟨y, hy, h⟩
    · left
      have : (0 : Int) ≤ (k : Int) % (n : Int) := by rw [← Int.natCast_emod]; omega
      have e : ((k % n : Nat) : Int) = 0 := by rw [Int.natCast_emod]; omega
      omega
    · right; simpa [List.getD, hx, hy] using h
  have g2 : k < n ∨ vs.getD (k - n) 0 ≤ vs.getD k 0 := by
    rcases h2 with h2 | ⟨y, hy, h⟩
    · exact .inl h2
    · right; simpa [List.getD, hx, hy] using h
  simp only [monOk, Bool.and_eq_true, Bool.or_eq_true, decide_eq_true_eq]
  exact ⟨g1, g2⟩
end Go.Proofs.YtocahjbmnkadjaaGreatDoor
/-
  Contracts of the functions on spans.
-/
namespace Go.Proofs.YtocahjbmnkadjaaGreatDoor
open Go.RowKit

def spanV (a b : Int) : Bool := inB a (-1000000000) 1000000000 && inB b (-1000000000) 1000000000 && decide (a ≤ b)

end Go.Proofs.YtocahjbmnkadjaaGreatDoor
/-
  Contracts of TableBounds, the reference's and the program's.
-/
namespace Go.Proofs.YtocahjbmnkadjaaGreatDoor
open Go.RowKit

def bndV (t : TableD) : Int × Int × Int := if tabB t = true then (minL t.values, maxL t.values, 0) else (0, 0, 1)
theorem tabB_val {t : TableD} (h : tabB t = true) : 1 ≤ t.values.length := by
  simp only [tabB, Bool.and_eq_true, decide_eq_true_eq] at h
  have h1 := axB_len h.1.1.1
  have h2 := axB_len h.1.1.2
  have := Nat.mul_le_mul h1.1 h2.1
  omega
theorem Blk.drew_ {w : World} {g : Nat} {t : TypeId} {cs : Array Value} (h : Blk w g t cs) : Blk w.drew g t cs := h.grows (Grows.refl _).drew
theorem Blk.set' {w : World} {g : Nat} {t : TypeId} {cs ds : Array Value} {i : Nat} {u : Value} (h : Blk w g t cs) (e : ds = cs.setIfInBounds i u) : Blk (w.setCell ⟨g, i, none⟩ u) g t ds := by subst e; exact h.set_ i u
set_option maxHeartbeats 4000000 in
theorem sBounds_any {a b c : Value} {t : TableD} (w : World) (h : RTable w [a, b, c] t) :
    Calls Tryz.prog 109 #[.agg #[a, b, c]] w fun e w' => e = .returned (.tuple #[.agg #[.int .i64 (bndV t).1, .int .i64 (bndV t).2.1], .int .i64 (bndV t).2.2]) ∧ Grows w w' := by
  obtain ⟨A3, n3, rfl⟩ := h.open_.2.2.shape
  have hr := h
  clear h
  have g : Grows w w := Grows.refl w
  have G : Hid (Grows w ((w.alloc (.cells #[a, b, .slice A3 t.values.length n3] 149)).alloc (.cells #[.int .i64 0, .int .i64 0] 152))) := hideIt (((Grows.refl w).alloc _).alloc _)
  clear g
  have S : Hid (Blk ((w.alloc (.cells #[a, b, .slice A3 t.values.length n3] 149)).alloc (.cells #[.int .i64 0, .int .i64 0] 152)) (w.heap.size) 149 #[a, b, .slice A3 t.values.length n3]) := by
    have := (Blk.new w 149 #[a, b, .slice A3 t.values.length n3]).grows ((Grows.refl (w.alloc (.cells #[a, b, .slice A3 t.values.length n3] 149))).alloc (.cells #[.int .i64 0, .int .i64 0] 152))
    exact hideIt (by simpa using this)
  have R : Hid (Blk ((w.alloc (.cells #[a, b, .slice A3 t.values.length n3] 149)).alloc (.cells #[.int .i64 0, .int .i64 0] 152)) (w.heap.size + 1) 152 #[.int .i64 0, .int .i64 0]) := by
    have := (Blk.new (w.alloc (.cells #[a, b, .slice A3 t.values.length n3] 149)) 152 #[.int .i64 0, .int .i64 0]).grows (Grows.refl ((w.alloc (.cells #[a, b, .slice A3 t.values.length n3] 149)).alloc (.cells #[.int .i64 0, .int .i64 0] 152)))
    exact hideIt (by simpa using this)
  replace hr := hideIt (hr.keep G.out.keeps)
  go_enter Tryz.func109, Tryz.ntmps109
  go_wp2_with fail
  refine (sIsTable_any _ hr.out).mono ?_
  rintro e u1 ⟨rfl, g⟩
  replace G := hideIt (G.out.trans g)
  replace hr := hideIt (hr.out.keep g.keeps)
  replace S := hideIt (S.out.grows g)
  replace R := hideIt (R.out.grows g)
  clear g
  have kS_0 : u1.cell? ⟨w.heap.size, 0, none⟩ = some (a) := S.out.cell 0
  have kS_1 : u1.cell? ⟨w.heap.size, 1, none⟩ = some (b) := S.out.cell 1
  have kS_2 : u1.cell? ⟨w.heap.size, 2, none⟩ = some (.slice A3 t.values.length n3) := S.out.cell 2
  have fS := S.out.frozen
  have lS : w.heap.size < u1.heap.size := S.out.lt
  have kR_0 : u1.cell? ⟨w.heap.size + 1, 0, none⟩ = some (.int .i64 0) := R.out.cell 0
  have kR_1 : u1.cell? ⟨w.heap.size + 1, 1, none⟩ = some (.int .i64 0) := R.out.cell 1
  have fR := R.out.frozen
  have lR : w.heap.size + 1 < u1.heap.size := R.out.lt
  cases h1 : tabB t
  · have E : Hid (bndV t = (0, 0, 1)) := by unfold Hid bndV; rw [h1]; rfl
    go_wp2
    refine bodyPost_ret (by simp [*, results, Tryz.results109, go_sem]; try rfl) rfl ?_
    exact ⟨by rw [E.out], (G.out.setCell (by simp <;> omega) _).setCell (by simp <;> omega) _⟩
  · have E : Hid (bndV t = (minTo t.values t.values.length, maxTo t.values t.values.length, 0)) := by unfold Hid bndV; rw [h1]; rfl
    have hv := tabB_val h1
    have hl := hr.out.open_.2.2.len
    obtain ⟨x0, h0⟩ : ∃ x, t.values[0]? = some x := ⟨_, List.getElem?_eq_getElem (by omega)⟩
    obtain ⟨A3q, n3q, hvq, -, -, hx⟩ := hr.out.open_.2.2.form
    injection hvq with e1 e2 e3
    subst e1 e3
    have HX := hideIt hx
    obtain ⟨bb, off, rfl, cs, hl1, hcs, hrr⟩ := hx 0 x0 h0
    unfold RI at hrr
    subst hrr
    have hs : u1.cell? ⟨bb, off, none⟩ = some (.int .i64 x0) := by simpa using hcs 0 _ rfl
    have X0 := hideIt h0
    clear hx h0 hcs hl1 e2
    have hv0 : 0 < t.values.length := hv
    have lb : bb < u1.heap.size := cell_lt hs
    go_wp2_with fail
    go_region
    go_wp2
    go_loopw [5] (fun i wr => ∃ k : Nat, 1 ≤ k ∧ k ≤ t.values.length ∧ i = .int .i64 (k : Int) ∧ Grows u1 wr ∧ Blk wr u1.heap.size 152 #[.int .i64 (minTo t.values k), .int .i64 (maxTo t.values k)]) (fun i _ => t.values.length - (intOf i).toNat)
    case atStart => exact ⟨1, Nat.le_refl _, hv, rfl, ((Grows.refl u1).alloc _).drew, by rw [minTo_one X0.out, maxTo_one X0.out]; exact (Blk.new u1 _ _).grows (Grows.refl _).drew⟩
    case round =>
      obtain ⟨k, hk0, hk, rfl, hg, hO⟩ := hrel
      have z2 := hg.keeps _ _ kS_2
      have zR0 := hg.keeps _ _ kR_0
      have zR1 := hg.keeps _ _ kR_1
      have zf := (R.out.grows hg).frozen
      have zl := (R.out.grows hg).lt
      have zO0 : wr.cell? ⟨u1.heap.size, 0, none⟩ = some (.int .i64 (minTo t.values k)) := hO.cell 0
      have zO1 : wr.cell? ⟨u1.heap.size, 1, none⟩ = some (.int .i64 (maxTo t.values k)) := hO.cell 1
      have zOf := hO.frozen
      have zOl := hO.lt
      have n1 : ¬ bb = u1.heap.size := by omega
      have n2 : ¬ w.heap.size = u1.heap.size := by omega
      have n3' : ¬ u1.heap.size = w.heap.size + 1 := by omega
      clear kS_0 kS_1 kS_2 kR_0 kR_1 fS fR hs
      have HO := hideIt hO
      have HG := hideIt hg
      clear hO hg
      by_cases hlt : k < t.values.length
      · obtain ⟨x, hx⟩ : ∃ x, t.values[k]? = some x := ⟨_, List.getElem?_eq_getElem hlt⟩
        obtain ⟨bq, oq, heq, cs, hl1, hcs, hr1⟩ := HX.out k x hx
        injection heq with heq
        injection heq with e1 e2
        subst e1 e2
        unfold RI at hr1
        subst hr1
        have hs : wr.cell? ⟨bb, off + k, none⟩ = some (.int .i64 x) := by simpa using HG.out.keeps _ _ (hcs 0 _ rfl)
        have X1 := hideIt hx
        clear hcs hl1 hx
        go_wp2_with fail
        by_cases hmin : x < minTo t.values k
        · by_cases hmax : maxTo t.values k < x
          · go_region
            go_wp2_with fail
            go_region
            go_wp2
            go_roundw
            case rel =>
              refine ⟨k + 1, by omega, by omega, by go_num, by repeat (first | exact HG.out | refine Grows.drew ?_ | refine Grows.setCell ?_ (by simp <;> omega) _), ?_⟩
              rw [minTo_succ X1.out, maxTo_succ X1.out, if_pos hmin, if_pos hmax]
              exact Blk.drew_ ((HO.out.set_ 0 _).drew_.set_ 1 _)
            case measure => simp [intOf]; omega
          · go_region
            go_wp2_with fail
            go_region
            go_wp2
            go_roundw
            case rel =>
              refine ⟨k + 1, by omega, by omega, by go_num, by repeat (first | exact HG.out | refine Grows.drew ?_ | refine Grows.setCell ?_ (by simp <;> omega) _), ?_⟩
              rw [minTo_succ X1.out, maxTo_succ X1.out, if_pos hmin, if_neg (show ¬ maxTo t.values k < x by omega)]
              exact Blk.drew_ ((HO.out.set_ 0 _).drew_.set_ 1 _)
            case measure => simp [intOf]; omega
        · by_cases hmax : maxTo t.values k < x
          · go_region
            go_wp2_with fail
            go_region
            go_wp2
            go_roundw
            case rel =>
              refine ⟨k + 1, by omega, by omega, by go_num, by repeat (first | exact HG.out | refine Grows.drew ?_ | refine Grows.setCell ?_ (by simp <;> omega) _), ?_⟩
              rw [minTo_succ X1.out, maxTo_succ X1.out, if_neg (show ¬ x < minTo t.values k by omega), if_pos hmax]
              exact Blk.drew_ ((HO.out.set_ 0 _).drew_.set_ 1 _)
            case measure => simp [intOf]; omega
          · go_region
            go_wp2_with fail
            go_region
            go_wp2
            go_roundw
            case rel =>
              refine ⟨k + 1, by omega, by omega, by go_num, by repeat (first | exact HG.out | refine Grows.drew ?_ | refine Grows.setCell ?_ (by simp <;> omega) _), ?_⟩
              rw [minTo_succ X1.out, maxTo_succ X1.out, if_neg (show ¬ x < minTo t.values k by omega), if_neg (show ¬ maxTo t.values k < x by omega)]
              exact Blk.drew_ ((HO.out.set_ 0 _).drew_.set_ 1 _)
            case measure => simp [intOf]; omega
      · have hk2 : k = t.values.length := by omega
        subst hk2
        go_wp2
        refine bodyPost_ret (by simp [*, results, Tryz.results109, go_sem]; try rfl) rfl ?_
        exact ⟨by rw [E.out], ((G.out.trans HG.out).setCell (by simp <;> omega) _).setCell (by simp <;> omega) _⟩
end Go.Proofs.YtocahjbmnkadjaaGreatDoor
/-
  Contracts of the tests of two tables, the reference's and the program's.
-/
namespace Go.Proofs.YtocahjbmnkadjaaGreatDoor
open Go.RowKit

def tabOk (pos : Bool) (t : TableD) : Bool := tabB t && (!pos || decide (0 ≤ minL t.values))
def tablesB (ts : List TableD) (pos : Bool) : Bool := decide (ts.length = 2) && ts.all (tabOk pos)
theorem tablesB_no {ts : List TableD} {pos : Bool} {k : Nat} {t : TableD} (hk : ts[k]? = some t) (h : tabOk pos t = false) : tablesB ts pos = false := by
  unfold tablesB
  have : ts.all (tabOk pos) = false := by
    rw [List.all_eq_false]
    exact ⟨t, List.mem_of_getElem? hk, by simp [h]⟩
  rw [this, Bool.and_false]
set_option maxHeartbeats 2000000 in
theorem l03Tables_f {v : Value} {ts : List TableD} (w : World) (h : RTables w v ts) :
    Calls Tryz.prog 86 #[v, .bool false] w fun e w' => e = .returned (.bool (tablesB ts false)) ∧ Grows w w' := by
  have hl := RList.len h
  obtain ⟨A, c, ev, -, -, hx⟩ := RList.form h
  have HX := hideIt hx
  clear hx h
  by_cases h2 : ts.length = 2
  rotate_left
  · subst ev
    have E := hideIt (show tablesB ts false = false by unfold tablesB; rw [decide_eq_false h2]; rfl)
    go_enter Tryz.func86, Tryz.ntmps86
    go_wp2
    go_ret
    exact ⟨ret_bool E.out.symm, Grows.refl _⟩
  rw [h2] at ev
  subst ev
  have la : 2 ≤ ts.length := by omega
  have lb : ts.length ≤ 2 := by omega
  have H2 := hideIt h2
  clear h2 hl
  go_enter Tryz.func86, Tryz.ntmps86
  go_wp2
  go_loopw [5] (fun i wr => ∃ k : Nat, k ≤ 2 ∧ i = .int .i64 (k : Int) ∧ Hid (∀ (j : Nat) (t : TableD), j < k → ts[j]? = some t → tabOk false t = true) ∧ Grows w wr) (fun i _ => 2 - (intOf i).toNat)
  case atStart => exact ⟨0, by omega, rfl, fun j t hj => absurd hj (by omega), Grows.refl _⟩
  case round =>
    obtain ⟨k, hk, rfl, hco, hg⟩ := hrel
    have HG := hideIt hg
    by_cases hlt : k < 2
    · obtain ⟨t, ht⟩ : ∃ t, ts[k]? = some t := ⟨_, List.getElem?_eq_getElem (by omega)⟩
      obtain ⟨b, off, rfl, cs, hl1, hcs, hr⟩ := HX.out k t ht
      obtain ⟨c0, c1, c2, rfl⟩ := list3 hl1
      have HR := hideIt (hr.keep hg.keeps)
      have hs0 : wr.cell? ⟨b, off + k * 3, none⟩ = some c0 := by simpa [Nat.add_assoc] using hg.keeps _ _ (hcs 0 _ rfl)
      have hs1 : wr.cell? ⟨b, off + k * 3 + 1, none⟩ = some c1 := by simpa [Nat.add_assoc] using hg.keeps _ _ (hcs 1 _ rfl)
      have hs2 : wr.cell? ⟨b, off + k * 3 + 2, none⟩ = some c2 := by simpa [Nat.add_assoc] using hg.keeps _ _ (hcs 2 _ rfl)
      have T1 := hideIt ht
      clear hcs hl1 hr ht hg
      go_wp2_with fail
      refine (sBounds_any _ HR.out).mono ?_
      rintro e u ⟨rfl, g⟩
      have G1 := hideIt (HG.out.trans g)
      clear g
      cases hb : tabB t
      · have E := hideIt (tablesB_no (pos := false) T1.out (by unfold tabOk; rw [hb]; rfl))
        have EB := hideIt (show bndV t = (0, 0, 1) by unfold bndV; rw [if_neg (by simp [hb])])
        rw [EB.out]
        clear hb
        go_wp2
        go_ret
        exact ⟨ret_bool E.out.symm, G1.out.alloc _⟩
      have EB := hideIt (show bndV t = (minL t.values, maxL t.values, 0) by unfold bndV; rw [if_pos hb])
      rw [EB.out]
      have HB := hideIt hb
      clear hb EB
      obtain ⟨mn, emn⟩ : ∃ mn, minL t.values = mn := ⟨_, rfl⟩
      have EM := hideIt emn
      rw [emn]
      clear emn
      have OK : Hid (tabOk false t = true) := hideIt (by unfold tabOk; rw [HB.out]; rfl)
      go_wp2
      go_roundw
      case rel => exact ⟨k + 1, by omega, by go_num, fun j s hj hs => by
        by_cases ej : j = k
        · subst ej; rw [T1.out] at hs; injection hs with hs; rw [← hs]; exact OK.out
        · exact hco.out j s (by omega) hs, G1.out.alloc _⟩
      case measure => simp [intOf]; omega
    · obtain rfl : k = 2 := by omega
      have E := hideIt (show tablesB ts false = true by
        unfold tablesB
        rw [decide_eq_true H2.out, Bool.true_and, List.all_eq_true]
        intro t ht
        obtain ⟨j, hj⟩ := List.getElem?_of_mem ht
        exact hco.out j t (by have := (List.getElem?_eq_some_iff.1 hj).1; omega) hj)
      go_wp2
      go_ret
      exact ⟨ret_bool E.out.symm, HG.out⟩
set_option maxHeartbeats 2000000 in
theorem l03Tables_t {v : Value} {ts : List TableD} (w : World) (h : RTables w v ts) :
    Calls Tryz.prog 86 #[v, .bool true] w fun e w' => e = .returned (.bool (tablesB ts true)) ∧ Grows w w' := by
  have hl := RList.len h
  obtain ⟨A, c, ev, -, -, hx⟩ := RList.form h
  have HX := hideIt hx
  clear hx h
  by_cases h2 : ts.length = 2
  rotate_left
  · subst ev
    have E := hideIt (show tablesB ts true = false by unfold tablesB; rw [decide_eq_false h2]; rfl)
    go_enter Tryz.func86, Tryz.ntmps86
    go_wp2
    go_ret
    exact ⟨ret_bool E.out.symm, Grows.refl _⟩
  rw [h2] at ev
  subst ev
  have la : 2 ≤ ts.length := by omega
  have lb : ts.length ≤ 2 := by omega
  have H2 := hideIt h2
  clear h2 hl
  go_enter Tryz.func86, Tryz.ntmps86
  go_wp2
  go_loopw [5] (fun i wr => ∃ k : Nat, k ≤ 2 ∧ i = .int .i64 (k : Int) ∧ Hid (∀ (j : Nat) (t : TableD), j < k → ts[j]? = some t → tabOk true t = true) ∧ Grows w wr) (fun i _ => 2 - (intOf i).toNat)
  case atStart => exact ⟨0, by omega, rfl, fun j t hj => absurd hj (by omega), Grows.refl _⟩
  case round =>
    obtain ⟨k, hk, rfl, hco, hg⟩ := hrel
    have HG := hideIt hg
    by_cases hlt : k < 2
    · obtain ⟨t, ht⟩ : ∃ t, ts[k]? = some t := ⟨_, List.getElem?_eq_getElem (by omega)⟩
      obtain ⟨b, off, rfl, cs, hl1, hcs, hr⟩ := HX.out k t ht
      obtain ⟨c0, c1, c2, rfl⟩ := list3 hl1
      have HR := hideIt (hr.keep hg.keeps)
      have hs0 : wr.cell? ⟨b, off + k * 3, none⟩ = some c0 := by simpa [Nat.add_assoc] using hg.keeps _ _ (hcs 0 _ rfl)
      have hs1 : wr.cell? ⟨b, off + k * 3 + 1, none⟩ = some c1 := by simpa [Nat.add_assoc] using hg.keeps _ _ (hcs 1 _ rfl)
      have hs2 : wr.cell? ⟨b, off + k * 3 + 2, none⟩ = some c2 := by simpa [Nat.add_assoc] using hg.keeps _ _ (hcs 2 _ rfl)
      have T1 := hideIt ht
      clear hcs hl1 hr ht hg
      go_wp2_with fail
      refine (sBounds_any _ HR.out).mono ?_
      rintro e u ⟨rfl, g⟩
      have G1 := hideIt (HG.out.trans g)
      clear g
      cases hb : tabB t
      · have E := hideIt (tablesB_no (pos := true) T1.out (by unfold tabOk; rw [hb]; rfl))
        have EB := hideIt (show bndV t = (0, 0, 1) by unfold bndV; rw [if_neg (by simp [hb])])
        rw [EB.out]
        clear hb
        go_wp2
        go_ret
        exact ⟨ret_bool E.out.symm, G1.out.alloc _⟩
      have EB := hideIt (show bndV t = (minL t.values, maxL t.values, 0) by unfold bndV; rw [if_pos hb])
      rw [EB.out]
      have HB := hideIt hb
      clear hb EB
      obtain ⟨mn, emn⟩ : ∃ mn, minL t.values = mn := ⟨_, rfl⟩
      have EM := hideIt emn
      rw [emn]
      clear emn
      by_cases hm : mn < 0
      · have E := hideIt (tablesB_no (pos := true) T1.out (by unfold tabOk; rw [HB.out, EM.out, decide_eq_false (by omega)]; rfl))
        go_wp2
        go_ret
        exact ⟨ret_bool E.out.symm, G1.out.alloc _⟩
      · have OK : Hid (tabOk true t = true) := hideIt (by unfold tabOk; rw [HB.out, EM.out, decide_eq_true (by omega)]; rfl)
        go_wp2
        go_roundw
        case rel => exact ⟨k + 1, by omega, by go_num, fun j s hj hs => by
          by_cases ej : j = k
          · subst ej; rw [T1.out] at hs; injection hs with hs; rw [← hs]; exact OK.out
          · exact hco.out j s (by omega) hs, G1.out.alloc _⟩
        case measure => simp [intOf]; omega
    · obtain rfl : k = 2 := by omega
      have E := hideIt (show tablesB ts true = true by
        unfold tablesB
        rw [decide_eq_true H2.out, Bool.true_and, List.all_eq_true]
        intro t ht
        obtain ⟨j, hj⟩ := List.getElem?_of_mem ht
        exact hco.out j t (by have := (List.getElem?_eq_some_iff.1 hj).1; omega) hj)
      go_wp2
      go_ret
      exact ⟨ret_bool E.out.symm, HG.out⟩
theorem l03Tables_any {v : Value} {ts : List TableD} (pos : Bool) (w : World) (h : RTables w v ts) :
    Calls Tryz.prog 86 #[v, .bool pos] w fun e w' => e = .returned (.bool (tablesB ts pos)) ∧ Grows w w' := by
  cases pos
  · exact l03Tables_f w h
  · exact l03Tables_t w h
set_option maxHeartbeats 1000000 in
theorem areTables1_any {a b c : Value} {t : TableD} (pos : Bool) (g : Nat) (W : World) (hr : RTable W [a, b, c] t) (hb : W.cell? ⟨g, 0, none⟩ = some (.bool pos)) :
    Calls Tryz.prog 159 #[.agg #[a, b, c], .pointer (some ⟨g, 0, none⟩)] W fun e W' => e = .returned (.bool (!tabOk pos t)) ∧ Grows W W' := by
  have lb := cell_lt hb
  simp at lb
  have g0 := (Grows.refl W).alloc (.cells #[a, b, c] 149)
  have S := hideIt (Blk.new W 149 #[a, b, c])
  have H := hideIt (hr.keep g0.keeps)
  have G := hideIt g0
  have HB := hideIt hb
  clear g0 hr
  cases ht : tabB t
  · have E := hideIt (show (!tabOk pos t) = true by unfold tabOk; rw [ht]; rfl)
    go_enter Tryz.func159, Tryz.ntmps159
    go_wp2_with fail
    refine (iIsTable_any _ H.out).mono ?_
    rintro e u ⟨rfl, g1⟩
    rw [ht]
    have G1 := hideIt (G.out.trans g1)
    clear g1 hb
    go_wp2
    go_ret
    exact ⟨ret_bool E.out.symm, G1.out⟩
  have tv := tabB_val ht
  go_enter Tryz.func159, Tryz.ntmps159
  go_wp2_with fail
  refine (iIsTable_any _ H.out).mono ?_
  rintro e u ⟨rfl, g1⟩
  rw [ht]
  have HT := hideIt ht
  have G1 := hideIt (G.out.trans g1)
  have H1 := hideIt (H.out.keep g1.keeps)
  have kb : u.cell? ⟨g, 0, none⟩ = some (.bool pos) := G1.out.keeps _ _ HB.out
  have k2 : u.cell? ⟨W.heap.size, 2, none⟩ = some c := (S.out.grows g1).cell 2
  have lu : W.heap.size < u.heap.size := (S.out.grows g1).lt
  clear g1 hb ht
  cases pos
  · have E := hideIt (show (!tabOk false t) = false by unfold tabOk; rw [HT.out]; rfl)
    go_wp2
    go_ret
    exact ⟨ret_bool E.out.symm, G1.out⟩
  · go_wp2_with fail
    refine (min_any _ H1.out.open_.2.2 tv).mono ?_
    rintro e u2 ⟨rfl, rfl⟩
    obtain ⟨mn, emn⟩ : ∃ mn, minL t.values = mn := ⟨_, rfl⟩
    rw [emn]
    by_cases hm : mn < 0
    · have E := hideIt (show (!tabOk true t) = true by unfold tabOk; rw [HT.out, emn, decide_eq_false (by omega)]; rfl)
      clear emn
      go_wp2
      go_ret
      exact ⟨ret_bool E.out.symm, G1.out⟩
    · have E := hideIt (show (!tabOk true t) = false by unfold tabOk; rw [HT.out, emn, decide_eq_true (by omega)]; rfl)
      clear emn
      go_wp2
      go_ret
      exact ⟨ret_bool (by rw [E.out]; exact decide_eq_false (by omega)), G1.out⟩
theorem any_not {ts : List TableD} {pos : Bool} : (!(ts.any fun t => !tabOk pos t)) = ts.all (tabOk pos) := by
  induction ts with
  | nil => rfl
  | cons a r ih => simp only [List.any_cons, List.all_cons, Bool.not_or, Bool.not_not, ih]
set_option maxHeartbeats 1000000 in
theorem areTables_any {v : Value} {ts : List TableD} (pos : Bool) (w : World) (h : RTables w v ts) :
    Calls Tryz.prog 141 #[v, .bool pos] w fun e w' => e = .returned (.bool (tablesB ts pos)) ∧ Grows w w' := by
  have hl := RList.len h
  obtain ⟨A, c, rfl⟩ : ∃ (A : Option Addr) (c : Nat), v = .slice A ts.length c := by obtain ⟨A, c, e, -⟩ := RList.form h; exact ⟨A, c, e⟩
  have H := hideIt h
  clear h
  by_cases h2 : ts.length = 2
  rotate_left
  · have E := hideIt (show tablesB ts pos = false by unfold tablesB; rw [decide_eq_false h2]; rfl)
    have hd : ((ts.length : Int) == 2) = false := by simp; omega
    go_enter Tryz.func141, Tryz.ntmps141
    go_wp2
    go_ret
    exact ⟨ret_bool E.out.symm, (Grows.refl _).alloc _⟩
  have E := hideIt (show tablesB ts pos = !(ts.any fun t => !tabOk pos t) by unfold tablesB; rw [decide_eq_true h2, Bool.true_and, any_not])
  have hd : ((ts.length : Int) == 2) = true := by simp; omega
  clear h2
  go_enter Tryz.func141, Tryz.ntmps141
  go_wp2_with fail
  have g0 : Grows w (w.alloc (.cells #[.bool pos] 4)) := (Grows.refl _).alloc _
  refine (containsFuncTable_any 159 _ (fun args W => enters_of Tryz.func159 (by kernel_rfl) rfl args W) (fun t => !tabOk pos t) _ (RList.keep H.out g0.keeps fun _ _ h => h.keep g0.keeps) ?_).mono ?_
  · intro t c0 c1 c2 W _ gw hr
    exact areTables1_any pos _ W hr (gw.keeps _ _ (by simp))
  rintro e w1 ⟨rfl, g1⟩
  obtain ⟨q, eq⟩ : ∃ q, q = ts.any (fun t => !tabOk pos t) := ⟨_, rfl⟩
  rw [← eq]
  have EQ := hideIt (E.out.trans (by rw [← eq]))
  clear eq
  have G1 := hideIt (g0.trans g1)
  clear g1 g0
  go_wp2
  go_ret
  exact ⟨ret_bool EQ.out.symm, G1.out⟩
end Go.Proofs.YtocahjbmnkadjaaGreatDoor
