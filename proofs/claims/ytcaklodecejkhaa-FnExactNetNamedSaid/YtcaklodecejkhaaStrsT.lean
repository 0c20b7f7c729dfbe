/-
  Slices of strings: owned, small, budget, copy, equality.
-/
import Derived.Test.YtcaklodecejkhaaListB
namespace Go.Proofs.Ytcaklodecejkhaa
open Go.RowKit
def OS (_ : World) (cs : List Value) (x : ByteArray) (b : List Nat) : Prop := cs = [.string x] ∧ x.size ≤ maxLen ∧ b = []
def OStrs : World → Value → List ByteArray → List Nat → Prop := OList 1 9 OS
def SmStr (s : ByteArray) : Prop := s.size ≤ 1048576
def SmStrs (xs : List ByteArray) : Prop := SmL xs ∧ ∀ x ∈ xs, SmStr x
theorem OStrs.reads {w : World} {v : Value} {xs : List ByteArray} {bs : List Nat} (h : OStrs w v xs bs) : RStrs w v xs := OList.reads h fun _ _ _ h => ⟨h.1, h.2.1⟩
theorem OStrs.same {w w' : World} {v : Value} {xs : List ByteArray} {bs : List Nat} (h : OStrs w v xs bs) (g : SameOn bs w w') : OStrs w' v xs bs := OList.same h g fun _ _ _ h _ => h
theorem OStrs.lt {w : World} {v : Value} {xs : List ByteArray} {bs : List Nat} (h : OStrs w v xs bs) : ∀ g ∈ bs, g < w.heap.size := OList.lt h fun _ _ _ h g hg => by rw [h.2.2] at hg; cases hg
theorem info_str : (Try.prog.info? 9).map (fun i => (i.zero, i.size, i.bytes)) = some (some (.string .empty), 1, 16) := by kernel_rfl
set_option maxHeartbeats 2000000 in
theorem toStrs_o {v : Value} {xs : List ByteArray} (w : World) (h : RStrs w v xs) (hn : SmStrs xs) :
    Calls Try.prog 19 #[v] w fun e w' => ∃ (A : Option Addr) (c : Nat) (bs : List Nat), e = .returned (.slice A xs.length c) ∧ OStrs w' (.slice A xs.length c) xs bs ∧ Own w.heap.size w'.heap.size bs ∧ Grows w w' := by
  obtain ⟨i0, hi, hz0, hz1, hz2⟩ := info_parts info_str
  obtain ⟨hn1, -⟩ := hn
  unfold SmL at hn1
  have hmk : ∀ u : World, (Instr.makeSlice 23 (.int .i64 (xs.length : Int)) (.int .i64 (xs.length : Int))).run Try.prog u =
      .ok (.slice (some ⟨u.heap.size, 0, none⟩) xs.length xs.length) (u.alloc (.cells (madeCells #[.string .empty] xs.length) 9)) := fun u => by
    have h := run_make (P := Try.prog) u 23 9 i0 (.string .empty) Try.underlying23 hi hz0 .i64 .i64 (xs.length : Int) (xs.length : Int) (by omega) (Int.le_refl _) (by rw [hz2]; omega) (by omega)
    simpa [hz1, Value.cells] using h
  obtain ⟨A, c, rfl, hle, hc, hx⟩ := h.form
  have HX := hideIt hx
  clear hx hi hz0 hz1 hz2 h
  go_enter Try.func19, Try.ntmps19
  go_wp2
  go_loopw [4] (fun i wr => ∃ k : Nat, k ≤ xs.length ∧ i = .int .i64 k ∧ CopyG 1 9 OS w wr xs k) (fun i _ => xs.length - (intOf i).toNat)
  case atStart => exact ⟨0, Nat.zero_le _, rfl, CopyG.start _ (Blk.new _ _ _) (by simp [size_madeCells]) ((Grows.refl _).alloc _)⟩
  case round =>
    obtain ⟨k, hk, rfl, hco⟩ := hrel
    by_cases hlt : k < xs.length
    · obtain ⟨x, hx⟩ : ∃ x, xs[k]? = some x := ⟨_, List.getElem?_eq_getElem hlt⟩
      obtain ⟨b, off, rfl, cs, hl1, hcs, hr⟩ := HX.out k x hx
      obtain ⟨rfl, hsl⟩ := hr
      have st0 := CopyG.step (u := wr) (es := [.string x]) (b := []) hco (fun _ _ _ _ _ h _ => h) hx (Grows.refl _) ⟨rfl, hsl, rfl⟩ Own.nil rfl
      rw [Nat.mul_one] at st0
      have st := hideIt st0
      obtain ⟨ds, bss, hb, hsz, -, -, hg, -⟩ := hco
      have hs : wr.cell? ⟨b, off + k, none⟩ = some (.string x) := by simpa using hg.keeps _ _ (hcs 0 _ rfl)
      obtain ⟨old, hd⟩ : ∃ old, wr.cell? ⟨w.heap.size, k, none⟩ = some old := ⟨_, by rw [hb.cell]; exact Array.getElem?_eq_getElem (by omega)⟩
      have hf : wr.frozen? ⟨w.heap.size, k, none⟩ = false := hb.frozen k
      clear hcs hl1 hx hb hsz hmk st0 hg
      go_wp2
      go_roundw
      case rel => exact ⟨k + 1, by omega, by go_num, st.out⟩
      case measure => simp [intOf]; omega
    · have hk2 : k = xs.length := by omega
      subst hk2
      have H := hideIt hco
      clear hco hmk
      go_wp2
      go_ret
      obtain ⟨bs, h1, h2, h3⟩ := H.out.done (by unfold maxLen; omega)
      exact ⟨_, _, bs, rfl, h1, h2, h3⟩
set_option maxHeartbeats 1000000 in
theorem eqStrs_same {v1 v2 : Value} {xs : List ByteArray} (w : World) (h1 : RStrs w v1 xs) (h2 : RStrs w v2 xs) :
    Calls Try.prog 24 #[v1, v2] w fun e w' => e = .returned (.bool true) ∧ Grows w w' := by
  have l1 := h1.len
  obtain ⟨A, c, rfl, hle, hc, hx⟩ := h1.form
  obtain ⟨A2, c2, rfl, hle2, hc2, hy⟩ := h2.form
  have HX := hideIt hx
  have HY := hideIt hy
  have hb : ((xs.length : Int) != (xs.length : Int)) = false := by simp
  clear hx hy h1 h2 hle hle2 hc hc2
  go_enter Try.func24, Try.ntmps24
  go_wp2
  go_loopw [5] (fun i wr => ∃ k : Nat, k ≤ xs.length ∧ i = .int .i64 k ∧ Grows w wr) (fun i _ => xs.length - (intOf i).toNat)
  case atStart => exact ⟨0, Nat.zero_le _, rfl, Grows.refl _⟩
  case round =>
    obtain ⟨k, hk, rfl, hg⟩ := hrel
    by_cases hlt : k < xs.length
    · obtain ⟨x, hx⟩ : ∃ x, xs[k]? = some x := ⟨_, List.getElem?_eq_getElem hlt⟩
      obtain ⟨b, off, rfl, cs, hl1, hcs, hr, -⟩ := HX.out k x hx
      obtain ⟨b2, off2, rfl, cs2, hl2, hcs2, hr2, -⟩ := HY.out k x hx
      subst hr hr2
      have hs : wr.cell? ⟨b, off + k, none⟩ = some (.string x) := by simpa using hg.keeps _ _ (hcs 0 _ rfl)
      have hs2 : wr.cell? ⟨b2, off2 + k, none⟩ = some (.string x) := by simpa using hg.keeps _ _ (hcs2 0 _ rfl)
      clear hcs hcs2 hl1 hl2 hx
      go_wp2
      go_quiet (fail)
      go_wp2
      go_roundw
      case rel => exact ⟨k + 1, by omega, by go_num, by first | exact hg.drewN _ | exact (hg.drewN _).drewN _⟩
      case measure => simp [intOf]; omega
    · have hk2 : k = xs.length := by omega
      subst hk2
      go_wp2
      go_ret
      exact ⟨rfl, hg⟩
set_option maxHeartbeats 2000000 in
theorem szStrs_any {v : Value} {xs : List ByteArray} (left : Int) (w : World) (h : RStrs w v xs) (h1 : 0 ≤ left) (h2 : left ≤ 1048576) :
    Calls Try.prog 16 #[v, .int .i64 left] w (SzPost (SmStrs xs) w) := by
  have hl := h.len
  obtain ⟨A, c, rfl, hle, hc, hx⟩ := h.form
  have HX := hideIt hx
  clear hx h hle hc
  by_cases hlt : left - xs.length < 0
  · go_enter Try.func16, Try.ntmps16
    go_wp2
    go_ret
    exact ⟨_, rfl, by omega, by omega, fun h => absurd h (by omega), Grows.refl _⟩
  · go_enter Try.func16, Try.ntmps16
    go_wp2
    go_loopw [1, 5] (fun l i wr => ∃ (k : Nat) (r : Int), k ≤ xs.length ∧ l = .int .i64 r ∧ i = .int .i64 (k : Int) ∧ 0 ≤ r ∧ r ≤ 1048576 ∧ Hid (∀ (j : Nat) (x : ByteArray), j < k → xs[j]? = some x → SmStr x) ∧ Grows w wr) (fun _ i _ => xs.length - (intOf i).toNat)
    case atStart => exact ⟨0, left - xs.length, Nat.zero_le _, rfl, rfl, by omega, by omega, fun j x hj => absurd hj (by omega), Grows.refl _⟩
    case round =>
      obtain ⟨k, r, hk, rfl, rfl, hr0, hr1, hco, hg⟩ := hrel
      by_cases hk1 : k < xs.length
      · obtain ⟨x, hx⟩ : ∃ x, xs[k]? = some x := ⟨_, List.getElem?_eq_getElem hk1⟩
        obtain ⟨b, off, rfl, cs, hl1, hcs, hr, hsl⟩ := HX.out k x hx
        subst hr
        have hs : wr.cell? ⟨b, off + k, none⟩ = some (.string x) := by simpa using hg.keeps _ _ (hcs 0 _ rfl)
        have hsl2 : (x.size : Int) ≤ 9223372036854775807 := by unfold maxLen at hsl; omega
        have X1 := hideIt hx
        clear hcs hl1 hx hsl
        by_cases n1 : r - (x.size : Int) < 0
        · go_wp2
          go_ret
          exact ⟨-1, rfl, by omega, by omega, fun h => absurd h (by omega), by repeat (first | exact hg | exact hg.drewN _ | refine Grows.drew ?_)⟩
        · go_wp2
          go_roundw
          case rel => exact ⟨k + 1, r - (x.size : Int), by omega, rfl, by go_num, by omega, by omega, fun j y hj hy => by
            by_cases e : j = k
            · subst e; rw [X1.out] at hy; injection hy with hy; rw [← hy]; unfold SmStr; omega
            · exact hco.out j y (by omega) hy, by repeat (first | exact hg | exact hg.drewN _ | refine Grows.drew ?_)⟩
          case measure => simp [intOf]; omega
      · have hk2 : k = xs.length := by omega
        subst hk2
        have HC := hideIt hco.out
        clear hco
        go_wp2
        go_ret
        exact ⟨_, rfl, by omega, by omega, fun _ => ⟨by unfold SmL; omega, fun x hx => by obtain ⟨i, hi⟩ := List.getElem?_of_mem hx; exact HC.out i x (lt_of_at hi) hi⟩, hg⟩
end Go.Proofs.Ytcaklodecejkhaa
