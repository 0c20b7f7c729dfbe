/-
  Contracts of the functions that mark a design's memory and that look whether the marks stand, with the marked values.
-/
import Derived.Test.YtocahjbmnkadjaaGreatDoorMarkL
import Derived.Test.YtocahjbmnkadjaaGreatDoorGJ
namespace Go.Proofs.YtocahjbmnkadjaaGreatDoor
open Go.RowKit
/-- a number's digits ahead of z -/
def digs (n : Nat) (z : ByteArray) : ByteArray := if _h : n = 0 then z else digs (n / 10) (strOfNums [48 + (n : Int) % 10] ++ z)
  termination_by n
  decreasing_by omega
theorem digs_zero (z : ByteArray) : digs 0 z = z := by rw [digs, dif_pos rfl]
theorem digs_step {n : Int} (h : 0 < n) (z : ByteArray) : digs n.toNat z = digs (n / 10).toNat (strOfNums [48 + n % 10] ++ z) := by
  rw [digs, dif_neg (by omega)]
  congr 1
  · omega
  · rw [show ((n.toNat : Nat) : Int) = n by omega]
theorem digs_size : ∀ (n : Nat) (z : ByteArray), (digs n z).size ≤ z.size + n
  | n, z => by
    by_cases h : n = 0
    · subst h
      rw [digs_zero]
      omega
    · rw [digs, dif_neg h]
      have ih := digs_size (n / 10) (strOfNums [48 + (n : Int) % 10] ++ z)
      have h1 : (strOfNums [48 + (n : Int) % 10]).size = 1 := strOfNums_size [48 + (n : Int) % 10]
      rw [ByteArray.size_append, h1] at ih
      omega
  termination_by n => n
  decreasing_by omega
def mkT (k : Int) : ByteArray := if k ≤ 0 then ⟨#[109, 48]⟩ else ⟨#[109]⟩ ++ digs k.toNat ⟨#[]⟩
theorem mkT_size (k : Int) (h : 0 ≤ k) (h2 : k ≤ 2000000000000) : (mkT k).size ≤ maxLen := by
  unfold mkT maxLen
  split
  · have e : (⟨#[109, 48]⟩ : ByteArray).size = 2 := rfl
    omega
  · have e : (⟨#[109]⟩ : ByteArray).size = 1 := rfl
    have e0 : (⟨#[]⟩ : ByteArray).size = 0 := rfl
    have := digs_size k.toNat ⟨#[]⟩
    rw [ByteArray.size_append]
    omega
set_option maxHeartbeats 2000000 in
set_option maxRecDepth 100000 in
theorem markText_v (k : Int) (w : World) (h0 : 0 ≤ k) (h1 : k ≤ 2000000000000) :
    Calls Tryz.prog 50 #[.int .i64 k] w fun e w' => e = .returned (.string (mkT k)) ∧ Grows w w' := by
  by_cases hz : k ≤ 0
  · have E0 : Hid (mkT k = ⟨#[109, 48]⟩) := hideIt (if_pos hz)
    go_enter Tryz.func50, Tryz.ntmps50
    go_wp2
    go_ret
    exact ⟨by rw [E0.out]; rfl, Grows.refl _⟩
  · have E0 : Hid (mkT k = ⟨#[109]⟩ ++ digs k.toNat ⟨#[]⟩) := hideIt (if_neg hz)
    go_enter Tryz.func50, Tryz.ntmps50
    go_wp2
    go_loopw [0, 3] (fun q s wr => ∃ (n : Int) (z : ByteArray), 0 ≤ n ∧ n ≤ 2000000000000 ∧ q = .int .i64 n ∧ s = .string z ∧ (z.size : Int) + n ≤ 2000000000000 ∧ Hid (digs n.toNat z = digs k.toNat ⟨#[]⟩) ∧ Grows w wr) (fun q _ _ => (intOf q).toNat)
    case atStart => exact ⟨k, _, h0, h1, rfl, rfl, by have e : (⟨#[]⟩ : ByteArray).size = 0 := rfl; rw [e]; omega, hideIt rfl, Grows.refl _⟩
    case round =>
      obtain ⟨n, z, hn0, hn1, rfl, rfl, hzn, hd, hg⟩ := hrel
      have hz1 : z.size ≤ 2000000000000 := by omega
      have sz1 : (strOfNums [48 + n % 10]).size = 1 := strOfNums_size [48 + n % 10]
      have HG := hideIt hg
      clear hg
      by_cases hn : 0 < n
      · have HD : Hid (digs (n / 10).toNat (strOfNums [48 + n % 10] ++ z) = digs k.toNat ⟨#[]⟩) := hideIt ((digs_step hn z).symm.trans hd.out)
        have d1 : 0 ≤ n % 10 := by omega
        have d2 : n % 10 < 10 := by omega
        have d3 : 0 ≤ n / 10 := by omega
        have d4 : n / 10 < n := by omega
        have hcv : (convert 123 9 (.slice (some ⟨wr.heap.size, 0, none⟩) 1 1)).run Tryz.prog (wr.alloc (.cells #[.int .u8 (48 + n % 10)] 5)) = .ok (.string (strOfNums [48 + n % 10])) (wr.alloc (.cells #[.int .u8 (48 + n % 10)] 5)) :=
          run_convert_bytes_arg _ 123 5 Tryz.underlying123 Tryz.underlying5 _ 0 1 1 [48 + n % 10] rfl (fun i hi => by cases i with | zero => simp | succ m => omega) 9 Tryz.underlying9
        go_wp2
        go_roundw
        case rel => exact ⟨_, _, by omega, by omega, rfl, rfl, by rw [ByteArray.size_append, sz1]; omega, HD, by repeat (first | exact HG.out | refine Grows.drew ?_ | refine Grows.alloc ?_ _)⟩
        case measure => simp [intOf]; omega
      · have HZ : Hid (z = digs k.toNat ⟨#[]⟩) := hideIt (by
          have h := hd.out
          rw [show n.toNat = 0 by omega, digs_zero] at h
          exact h)
        go_wp2
        go_ret
        exact ⟨by rw [E0.out, ← HZ.out]; rfl, HG.out⟩
/-- a row's first n cells are as F says, the others as they were; besides it at most bs has turned -/
structure MkV (t : TypeId) (F : Nat → Option Value) (w : World) (g : Nat) (cs : Array Value) (bs : List Nat) (n : Nat) (wr : World) : Prop where
  ex : ∃ ds : Array Value, Blk wr g t ds ∧ ds.size = cs.size ∧ (∀ o, o < n → ds[o]? = F o) ∧ ∀ o, n ≤ o → ds[o]? = cs[o]?
  chg : Chg (g :: bs) w wr
section
variable {t : TypeId} {F : Nat → Option Value} {w wr u : World} {g n : Nat} {cs : Array Value} {bs : List Nat}
theorem MkV.start (h : Blk w g t cs) : MkV t F w g cs bs 0 w := ⟨⟨cs, h, rfl, fun _ h => absurd h (Nat.not_lt_zero _), fun _ _ => rfl⟩, Chg.refl _ _⟩
theorem MkV.store (h : MkV t F w g cs bs n wr) {v : Value} (hF : F n = some v) (hn : n < cs.size) : MkV t F w g cs bs (n + 1) (wr.setCell ⟨g, n, none⟩ v) := by
  obtain ⟨ds, hb, hs, h1, h2⟩ := h.ex
  refine ⟨⟨_, hb.set_ n v, by simpa using hs, fun o ho => ?_, fun o ho => ?_⟩, h.chg.setCell (by simp) _⟩
  · by_cases e : o = n
    · subst e
      rw [Array.getElem?_setIfInBounds_self_of_lt (by omega), hF]
    · rw [Array.getElem?_setIfInBounds_ne (fun q => e q.symm)]
      exact h1 o (by omega)
  · rw [Array.getElem?_setIfInBounds_ne (by omega)]
    exact h2 o (by omega)
theorem MkV.skip (h : MkV t F w g cs bs n wr) (hF : F n = cs[n]?) : MkV t F w g cs bs (n + 1) wr := by
  obtain ⟨ds, hb, hs, h1, h2⟩ := h.ex
  refine ⟨⟨ds, hb, hs, fun o ho => ?_, fun o ho => h2 o (by omega)⟩, h.chg⟩
  by_cases e : o = n
  · subst e
    rw [h2 o (Nat.le_refl _), hF]
  · exact h1 o (by omega)
theorem MkV.grows (h : MkV t F w g cs bs n wr) (k : Grows wr u) : MkV t F w g cs bs n u := by
  obtain ⟨ds, hb, hs, hd⟩ := h.ex
  exact ⟨⟨ds, hb.grows k, hs, hd⟩, h.chg.trans (Chg.of_grows k)⟩
theorem MkV.call {b : List Nat} (h : MkV t F w g cs bs n wr) (k : Chg b wr u) (hb : ∀ q ∈ b, q ∈ bs) (hg : g ∉ b) : MkV t F w g cs bs n u := by
  obtain ⟨ds, hbk, hs, hd⟩ := h.ex
  exact ⟨⟨ds, hbk.chg k hg, hs, hd⟩, h.chg.trans (k.mono fun q hq => List.mem_cons_of_mem _ (hb q hq))⟩
theorem MkV.lt (h : MkV t F w g cs bs n wr) : g < wr.heap.size := by obtain ⟨ds, hb, -⟩ := h.ex; exact hb.lt
theorem MkV.frozen (h : MkV t F w g cs bs n wr) : ∀ o, wr.frozen? ⟨g, o, none⟩ = false := by obtain ⟨ds, hb, -⟩ := h.ex; exact hb.frozen
theorem MkV.has (h : MkV t F w g cs bs n wr) {o : Nat} (ho : o < cs.size) : ∃ v, wr.cell? ⟨g, o, none⟩ = some v := by
  obtain ⟨ds, hb, hs, -⟩ := h.ex
  exact ⟨_, by rw [hb.cell]; exact Array.getElem?_eq_getElem (by omega)⟩
theorem MkV.at (h : MkV t F w g cs bs n wr) {o : Nat} {v : Value} (ho : n ≤ o) (hv : cs[o]? = some v) : wr.cell? ⟨g, o, none⟩ = some v := by
  obtain ⟨ds, hb, hs, -, h2⟩ := h.ex
  rw [hb.cell, h2 o ho, hv]
theorem MkV.list {α : Type} {sz c : Nat} {O : World → List Value → α → List Nat → Prop} {ys : List α} {bss : List (List Nat)} (h : MkV t F w g cs bs (ys.length * sz) wr) (h1 : ys.length ≤ c) (h2 : c ≤ maxLen) (hl : bss.length = ys.length)
    (hE : ∀ (i : Nat) (y : α), ys[i]? = some y → ∃ (es : List Value) (b : List Nat), es.length = sz ∧ (∀ (j : Nat) (u : Value), es[j]? = some u → F (i * sz + j) = some u) ∧ bss[i]? = some b ∧ O wr es y b) : OList sz t O wr (.slice (some ⟨g, 0, none⟩) ys.length c) ys (g :: bss.flatten) := by
  obtain ⟨ds, hb, hs, hF, -⟩ := h.ex
  refine .inr ⟨g, c, ds, bss, rfl, h1, h2, hb, hl, rfl, fun i y hy => ?_⟩
  obtain ⟨es, b, e1, e2, e3, e4⟩ := hE i y hy
  refine ⟨es, b, e1, fun j u hu => ?_, e3, e4⟩
  have hi : i < ys.length := (List.getElem?_eq_some_iff.1 hy).1
  have hj : j < sz := by have := (List.getElem?_eq_some_iff.1 hu).1; omega
  rw [hF _ ?_, e2 j u hu]
  have : (i + 1) * sz ≤ ys.length * sz := Nat.mul_le_mul_right _ hi
  rw [Nat.add_mul, Nat.one_mul] at this
  omega
end
/-- what a marking gives -/
def MarkV (O : World → List Nat → Prop) (n : Nat) (k : Int) (bs : List Nat) (w : World) (e : Ending) (w' : World) : Prop := e = .returned (.int .i64 (k + (n : Int))) ∧ O w' bs ∧ Chg bs w w'
def mkStrs (k : Int) (n : Nat) : List ByteArray := (List.range n).map fun (i : Nat) => mkT (k + (i : Int))
theorem mkStrs_len (k : Int) (n : Nat) : (mkStrs k n).length = n := by simp [mkStrs]
theorem mkStrs_at {k : Int} {n i : Nat} (h : i < n) : (mkStrs k n)[i]? = some (mkT (k + (i : Int))) := by simp [mkStrs, h]
set_option maxHeartbeats 4000000 in
set_option maxRecDepth 10000 in
theorem markStrs_v {v : Value} {xs : List ByteArray} {bs : List Nat} (k : Int) (w : World) (h : OStrs w v xs bs) (hw : xs.length ≤ 1048576) (hk : 0 ≤ k) (hk2 : k ≤ 1000000000000) :
    Calls Tryz.prog 27 #[v, .int .i64 k] w (MarkV (fun w' bs => OStrs w' v (mkStrs k xs.length) bs) xs.length k bs w) := by
  rcases h with ⟨rfl, rfl, rfl⟩ | ⟨g, c, cs, bss, rfl, h1, h2, hb, hl, rfl, hc⟩
  · go_enter Tryz.func27, Tryz.ntmps27
    go_wp2
    go_loopw [1, 5] (fun q i wr => q = .int .i64 k ∧ i = .int .i64 0 ∧ wr = w) (fun _ _ _ => 0)
    case atStart => exact ⟨rfl, rfl, rfl⟩
    case round =>
      obtain ⟨rfl, rfl, rfl⟩ := hrel
      go_wp2
      go_ret
      exact ⟨ret_int (by simp), .inl ⟨rfl, rfl, rfl⟩, Chg.refl _ _⟩
  · have ST0 : MkV 9 (fun o => some (.string (mkT (k + (o : Int))))) w g cs bss.flatten 0 w := MkV.start hb
    have ST0 := hideIt ST0
    have HC := hideIt hc
    have H1 := hideIt h1
    have H2 := hideIt h2
    have HL := hideIt hl
    have HSZ : Hid (∀ j, j < xs.length → j < cs.size) := hideIt fun j hj => by
      obtain ⟨es, b, hes, hcs, hbi, ho⟩ := hc j _ (List.getElem?_eq_getElem hj)
      have h := (Array.getElem?_eq_some_iff.1 (hcs 0 es[0] (List.getElem?_eq_getElem (by omega)))).1
      omega
    clear hc hb hl h1 h2
    go_enter Tryz.func27, Tryz.ntmps27
    go_wp2
    go_loopw [1, 5] (fun q i wr => ∃ (j : Nat) (kk : Int), j ≤ xs.length ∧ q = .int .i64 kk ∧ i = .int .i64 (j : Int) ∧ Hid (kk = k + (j : Int)) ∧ Hid (MkV 9 (fun o => some (.string (mkT (k + (o : Int))))) w g cs bss.flatten j wr)) (fun _ i _ => xs.length - (intOf i).toNat)
    case atStart => exact ⟨0, k, Nat.zero_le _, rfl, rfl, hideIt (by simp), ST0⟩
    case round =>
      obtain ⟨j, kk, hj, rfl, rfl, hkk, hst⟩ := hrel
      have k0 : 0 ≤ kk := by have := hkk.out; omega
      have k1 : kk ≤ 1000001048576 := by have := hkk.out; omega
      by_cases hlt : j < xs.length
      · have hsz := HSZ.out j hlt
        obtain ⟨o0, c0⟩ := hst.out.has (o := j) (by omega)
        have cf := hst.out.frozen
        have cl := hst.out.lt
        go_wp2_with fail
        clear c0 cf cl
        refine (markText_v _ _ (by omega) (by omega)).mono ?_
        rintro e z1 ⟨rfl, gg⟩
        replace hst := hideIt (hst.out.grows gg)
        clear gg
        obtain ⟨o0, c0⟩ := hst.out.has (o := j) (by omega)
        have cf := hst.out.frozen
        have cl := hst.out.lt
        obtain ⟨tx, htx⟩ : ∃ tx, tx = mkT kk := ⟨_, rfl⟩
        have HT := hideIt htx
        rw [← htx]
        clear htx
        go_wp2
        go_roundw
        case rel => exact ⟨j + 1, _, by omega, rfl, by go_num, hideIt (by have := hkk.out; omega), hideIt (hst.out.store (by rw [HT.out, hkk.out]) (by omega))⟩
        case measure => simp [intOf]; omega
      · obtain rfl : j = xs.length := by omega
        go_wp2
        go_ret
        refine ⟨ret_int hkk.out, ?_, hst.out.chg⟩
        have := MkV.list (sz := 1) (O := OS) (ys := mkStrs k xs.length) (c := c) (bss := bss) (by rw [mkStrs_len, Nat.mul_one]; exact hst.out) (by rw [mkStrs_len]; exact H1.out) H2.out (by rw [mkStrs_len]; exact HL.out) (fun i y hy => by
          have hi : i < xs.length := by have := (List.getElem?_eq_some_iff.1 hy).1; rwa [mkStrs_len] at this
          rw [mkStrs_at hi] at hy
          injection hy with hy
          subst hy
          obtain ⟨es, b, hes, hcs, hbi, ho⟩ := HC.out i _ (List.getElem?_eq_getElem hi)
          refine ⟨_, b, rfl, fun j u hu => ?_, hbi, rfl, mkT_size _ (by omega) (by omega), ho.2.2⟩
          match j, hu with
          | 0, hu =>
            simp at hu
            subst hu
            simp)
        rwa [mkStrs_len] at this
set_option maxHeartbeats 1000000 in
theorem heldStrs_v {v : Value} {n : Nat} (k : Int) (w : World) (h : RStrs w v (mkStrs k n)) (hn : n ≤ 1048576) (hk : 0 ≤ k) (hk2 : k ≤ 1000000000000) :
    Calls Tryz.prog 30 #[v, .int .i64 k] w fun e w' => e = .returned (.int .i64 (k + (n : Int))) ∧ Grows w w' := by
  obtain ⟨A, c, hv, hle, hc, hx⟩ := h.form
  rw [mkStrs_len] at hv hle
  subst hv
  have HX := hideIt hx
  clear hx h hle hc
  go_enter Tryz.func30, Tryz.ntmps30
  go_wp2
  go_loopw [1, 5] (fun q i wr => ∃ (j : Nat) (kk : Int), j ≤ n ∧ q = .int .i64 kk ∧ i = .int .i64 (j : Int) ∧ Hid (kk = k + (j : Int)) ∧ Hid (Grows w wr)) (fun _ i _ => n - (intOf i).toNat)
  case atStart => exact ⟨0, k, Nat.zero_le _, rfl, rfl, hideIt (by simp), hideIt (Grows.refl _)⟩
  case round =>
    obtain ⟨j, kk, hj, rfl, rfl, hkk, hg⟩ := hrel
    have k0 : 0 ≤ kk := by have := hkk.out; omega
    have k1 : kk ≤ 1000001048576 := by have := hkk.out; omega
    by_cases hlt : j < n
    · obtain ⟨b, off, rfl, cs, hl1, hcs, hr⟩ := HX.out j _ (mkStrs_at hlt)
      obtain ⟨rfl, -⟩ := hr
      have hs0 := hcs 0 _ rfl
      rw [← hkk.out] at hs0
      have hs : wr.cell? ⟨b, off + j, none⟩ = some (.string (mkT kk)) := by simpa using hg.out.keeps _ _ hs0
      obtain ⟨tx, htx⟩ : ∃ tx, tx = mkT kk := ⟨_, rfl⟩
      rw [← htx] at hs
      have HS := hideIt hs
      have HT := hideIt htx
      clear htx hcs hl1 hs0 hs
      go_upto_region 4 with fail
      have gg : Grows wr wr := Grows.refl _
      refine wp_region_held_drew (S := (fun w' => Grows wr w')) (by kernel_rfl) ?_ (fun hh0 => ?_)
      · (try dsimp only); (repeat with_reducible (first | exact gg | exact Grows.refl _ | refine Grows.drew ?_))
      refine regTk 0 hh0 ?_
      refine regTk 1 hh0 ?_
      refine regTk 2 hh0 ?_
      refine regTake 3 (v := .string tx) (fun w hw => ?_) hh0 ?_
      · have k0 := hw.keeps _ _ HS.out
        go_simp
      try simp only [Act.put, List.setIfInBounds_toArray, List.set_cons_zero, List.set_cons_succ]
      refine regTk 4 hh0 ?_
      refine regCall 5 (fun K hK => ?_)
      go_simp
      have gq := (Grows.refl wr).drew
      refine (markText_v _ _ (by omega) (by omega)).mono ?_
      rintro e z1 ⟨rfl, g⟩
      rw [← HT.out]
      have gg : Grows wr z1 := gq.trans g
      clear g gq
      (try go_wp2_with fail)
      refine hK.out _ _ ?_ (fun hh1 => ?_)
      · (try dsimp only); (repeat with_reducible (first | exact gg | exact Grows.refl _ | refine Grows.drew ?_))
      clear hK K hh0
      try simp only [Act.put, List.setIfInBounds_toArray, List.set_cons_zero, List.set_cons_succ]
      refine regTk 6 hh1 ?_
      refine wpAnyH_done (by kernel_rfl) ?_ _
      clear hh1
      replace hg := hideIt (hg.out.trans gg)
      clear gg
      go_wp2
      go_roundw
      case rel => exact ⟨j + 1, _, by omega, rfl, by go_num, hideIt (by have := hkk.out; omega), hg⟩
      case measure => simp [intOf]; omega
    · have hj2 : j = n := by omega
      subst hj2
      go_wp2
      go_ret
      exact ⟨ret_int hkk.out, hg.out⟩
def mkPorts (k : Int) (n : Nat) : List PortD := (List.range n).map fun (i : Nat) => ⟨mkT (k + ((i * 3 : Nat) : Int)), k + ((i * 3 + 1 : Nat) : Int), k + ((i * 3 + 2 : Nat) : Int)⟩
theorem mkPorts_len (k : Int) (n : Nat) : (mkPorts k n).length = n := by simp [mkPorts]
theorem mkPorts_at {k : Int} {n i : Nat} (h : i < n) : (mkPorts k n)[i]? = some ⟨mkT (k + ((i * 3 : Nat) : Int)), k + ((i * 3 + 1 : Nat) : Int), k + ((i * 3 + 2 : Nat) : Int)⟩ := by simp [mkPorts, h]
def portF (k : Int) (o : Nat) : Option Value := if o % 3 = 0 then some (.string (mkT (k + (o : Int)))) else some (.int .i64 (k + (o : Int)))
theorem portF_0 (k : Int) (j : Nat) : portF k (j * 3) = some (.string (mkT (k + ((j * 3 : Nat) : Int)))) := if_pos (by omega)
theorem portF_1 (k : Int) (j : Nat) : portF k (j * 3 + 1) = some (.int .i64 (k + ((j * 3 + 1 : Nat) : Int))) := if_neg (by omega)
theorem portF_2 (k : Int) (j : Nat) : portF k (j * 3 + 2) = some (.int .i64 (k + ((j * 3 + 2 : Nat) : Int))) := if_neg (by omega)
set_option maxHeartbeats 4000000 in
set_option maxRecDepth 10000 in
theorem markPorts_v {v : Value} {xs : List PortD} {bs : List Nat} (k : Int) (w : World) (h : OPorts w v xs bs) (hw : xs.length ≤ 1048576) (hk : 0 ≤ k) (hk2 : k ≤ 1000000000000) :
    Calls Tryz.prog 28 #[v, .int .i64 k] w (MarkV (fun w' bs => OPorts w' v (mkPorts k xs.length) bs) (xs.length * 3) k bs w) := by
  rcases h with ⟨rfl, rfl, rfl⟩ | ⟨g, c, cs, bss, rfl, h1, h2, hb, hl, rfl, hc⟩
  · go_enter Tryz.func28, Tryz.ntmps28
    go_wp2
    go_loopw [1, 5] (fun q i wr => q = .int .i64 k ∧ i = .int .i64 0 ∧ wr = w) (fun _ _ _ => 0)
    case atStart => exact ⟨rfl, rfl, rfl⟩
    case round =>
      obtain ⟨rfl, rfl, rfl⟩ := hrel
      go_wp2
      go_ret
      exact ⟨ret_int (by simp), .inl ⟨rfl, rfl, rfl⟩, Chg.refl _ _⟩
  · have ST0 : MkV 75 (portF k) w g cs bss.flatten 0 w := MkV.start hb
    have ST0 := hideIt ST0
    have HC := hideIt hc
    have H1 := hideIt h1
    have H2 := hideIt h2
    have HL := hideIt hl
    have HSZ : Hid (∀ j, j < xs.length → j * 3 + 2 < cs.size) := hideIt fun j hj => by
      obtain ⟨es, b, hes, hcs, hbi, ho⟩ := hc j _ (List.getElem?_eq_getElem hj)
      have h := (Array.getElem?_eq_some_iff.1 (hcs 2 es[2] (List.getElem?_eq_getElem (by omega)))).1
      omega
    clear hc hb hl h1 h2
    go_enter Tryz.func28, Tryz.ntmps28
    go_wp2
    go_loopw [1, 5] (fun q i wr => ∃ (j : Nat) (kk : Int), j ≤ xs.length ∧ q = .int .i64 kk ∧ i = .int .i64 (j : Int) ∧ Hid (kk = k + ((j * 3 : Nat) : Int)) ∧ Hid (MkV 75 (portF k) w g cs bss.flatten (j * 3) wr)) (fun _ i _ => xs.length - (intOf i).toNat)
    case atStart => exact ⟨0, k, Nat.zero_le _, rfl, rfl, hideIt (by simp), ST0⟩
    case round =>
      obtain ⟨j, kk, hj, rfl, rfl, hkk, hst⟩ := hrel
      have k0 : 0 ≤ kk := by have := hkk.out; omega
      have k1 : kk ≤ 1000003145728 := by have := hkk.out; omega
      by_cases hlt : j < xs.length
      · have hsz := HSZ.out j hlt
        obtain ⟨o0, c0⟩ := hst.out.has (o := j * 3) (by omega)
        obtain ⟨o1, c1⟩ := hst.out.has (o := j * 3 + 1) (by omega)
        obtain ⟨o2, c2⟩ := hst.out.has (o := j * 3 + 2) (by omega)
        have cf := hst.out.frozen
        have cl := hst.out.lt
        go_wp2_with fail
        clear c0 c1 c2 cf cl
        refine (markText_v _ _ (by omega) (by omega)).mono ?_
        rintro e z1 ⟨rfl, gg⟩
        replace hst := hideIt (hst.out.grows gg)
        clear gg
        obtain ⟨o0, c0⟩ := hst.out.has (o := j * 3) (by omega)
        obtain ⟨o1, c1⟩ := hst.out.has (o := j * 3 + 1) (by omega)
        obtain ⟨o2, c2⟩ := hst.out.has (o := j * 3 + 2) (by omega)
        have cf := hst.out.frozen
        have cl := hst.out.lt
        obtain ⟨tx, htx⟩ : ∃ tx, tx = mkT kk := ⟨_, rfl⟩
        have HT := hideIt htx
        rw [← htx]
        clear htx
        go_wp2
        go_roundw
        case rel => exact ⟨j + 1, _, by omega, rfl, by go_num, hideIt (by have := hkk.out; omega), hideIt (by
          have s0 := hst.out.store (v := .string tx) (by rw [portF_0, HT.out, hkk.out]) (by omega)
          have s1 := s0.store (v := .int .i64 (kk + 1)) (by rw [portF_1, hkk.out]; congr 2; omega) (by omega)
          have s2 := s1.store (v := .int .i64 (kk + 1 + 1)) (by rw [portF_2, hkk.out]; congr 2; omega) (by omega)
          rw [show (j + 1) * 3 = j * 3 + 1 + 1 + 1 by omega]
          exact s2)⟩
        case measure => simp [intOf]; omega
      · obtain rfl : j = xs.length := by omega
        go_wp2
        go_ret
        refine ⟨ret_int hkk.out, ?_, hst.out.chg⟩
        have := MkV.list (sz := 3) (O := OPort) (ys := mkPorts k xs.length) (c := c) (bss := bss) (by rw [mkPorts_len]; exact hst.out) (by rw [mkPorts_len]; exact H1.out) H2.out (by rw [mkPorts_len]; exact HL.out) (fun i y hy => by
          have hi : i < xs.length := by have := (List.getElem?_eq_some_iff.1 hy).1; rwa [mkPorts_len] at this
          rw [mkPorts_at hi] at hy
          injection hy with hy
          subst hy
          obtain ⟨es, b, hes, hcs, hbi, ho⟩ := HC.out i _ (List.getElem?_eq_getElem hi)
          refine ⟨_, b, by rfl, fun j u hu => ?_, hbi, rfl, mkT_size _ (by omega) (by omega), ho.2.2⟩
          match j, hu with
          | 0, hu => simp at hu; subst hu; exact portF_0 k i
          | 1, hu => simp at hu; subst hu; exact portF_1 k i
          | 2, hu => simp at hu; subst hu; exact portF_2 k i)
        rwa [mkPorts_len] at this
set_option maxHeartbeats 2000000 in
theorem heldPorts_v {v : Value} {n : Nat} (k : Int) (w : World) (h : RPorts w v (mkPorts k n)) (hn : n ≤ 1048576) (hk : 0 ≤ k) (hk2 : k ≤ 1000000000000) :
    Calls Tryz.prog 31 #[v, .int .i64 k] w fun e w' => e = .returned (.int .i64 (k + ((n * 3 : Nat) : Int))) ∧ Grows w w' := by
  obtain ⟨A, c, hv, hle, hc, hx⟩ := h.form
  rw [mkPorts_len] at hv hle
  subst hv
  have HX := hideIt hx
  clear hx h hle hc
  go_enter Tryz.func31, Tryz.ntmps31
  go_wp2
  go_loopw [1, 5] (fun q i wr => ∃ (j : Nat) (kk : Int), j ≤ n ∧ q = .int .i64 kk ∧ i = .int .i64 (j : Int) ∧ Hid (kk = k + ((j * 3 : Nat) : Int)) ∧ Hid (Grows w wr)) (fun _ i _ => n - (intOf i).toNat)
  case atStart => exact ⟨0, k, Nat.zero_le _, rfl, rfl, hideIt (by simp), hideIt (Grows.refl _)⟩
  case round =>
    obtain ⟨j, kk, hj, rfl, rfl, hkk, hg⟩ := hrel
    have k0 : 0 ≤ kk := by have := hkk.out; omega
    have k1 : kk ≤ 1000003145728 := by have := hkk.out; omega
    by_cases hlt : j < n
    · obtain ⟨b, off, rfl, cs, hl1, hcs, hr⟩ := HX.out j _ (mkPorts_at hlt)
      obtain ⟨rfl, -⟩ := hr
      have hs0 := hcs 0 _ rfl
      have hs1 := hcs 1 _ rfl
      have hs2 := hcs 2 _ rfl
      have q1 : k + ((j * 3 + 1 : Nat) : Int) = kk + 1 := by have := hkk.out; omega
      have q2 : k + ((j * 3 + 2 : Nat) : Int) = kk + 1 + 1 := by have := hkk.out; omega
      dsimp only at hs0 hs1 hs2
      rw [← hkk.out] at hs0
      rw [q1] at hs1
      rw [q2] at hs2
      have hs : wr.cell? ⟨b, off + j * 3, none⟩ = some (.string (mkT kk)) := by simpa using hg.out.keeps _ _ hs0
      obtain ⟨tx, htx⟩ : ∃ tx, tx = mkT kk := ⟨_, rfl⟩
      rw [← htx] at hs
      have HS := hideIt hs
      have HS1 : Hid (wr.cell? ⟨b, off + j * 3 + 1, none⟩ = some (.int .i64 (kk + 1))) := hideIt (by rw [Nat.add_assoc]; simpa using hg.out.keeps _ _ hs1)
      have HS2 : Hid (wr.cell? ⟨b, off + j * 3 + 2, none⟩ = some (.int .i64 (kk + 1 + 1))) := hideIt (by rw [Nat.add_assoc]; simpa using hg.out.keeps _ _ hs2)
      have HT := hideIt htx
      clear htx hcs hl1 hs0 hs1 hs2 hs q1 q2
      go_upto_region 4 with fail
      have gg : Grows wr wr := Grows.refl _
      refine wp_region_held_drew (S := (fun w' => Grows wr w')) (by kernel_rfl) ?_ (fun hh0 => ?_)
      · (try dsimp only); (repeat with_reducible (first | exact gg | exact Grows.refl _ | refine Grows.drew ?_))
      refine regTk 0 hh0 ?_
      refine regTk 1 hh0 ?_
      refine regTk 2 hh0 ?_
      refine regTk 3 hh0 ?_
      refine regTake 4 (v := .string tx) (fun w hw => ?_) hh0 ?_
      · have k0 := hw.keeps _ _ HS.out
        go_simp
      try simp only [Act.put, List.setIfInBounds_toArray, List.set_cons_zero, List.set_cons_succ]
      refine regTk 5 hh0 ?_
      refine regCall 6 (fun K hK => ?_)
      go_simp
      have gq := (Grows.refl wr).drew
      refine (markText_v _ _ (by omega) (by omega)).mono ?_
      rintro e z1 ⟨rfl, g⟩
      rw [← HT.out]
      have gg : Grows wr z1 := gq.trans g
      clear g gq
      (try go_wp2_with fail)
      refine hK.out _ _ ?_ (fun hh1 => ?_)
      · (try dsimp only); (repeat with_reducible (first | exact gg | exact Grows.refl _ | refine Grows.drew ?_))
      clear hK K hh0
      try simp only [Act.put, List.setIfInBounds_toArray, List.set_cons_zero, List.set_cons_succ]
      refine regTk 7 hh1 ?_
      refine wpAnyH_done (by kernel_rfl) ?_ _
      clear hh1
      replace hg := hideIt (hg.out.trans gg)
      have hc1 := gg.keeps _ _ HS1.out
      have hc2 := gg.keeps _ _ HS2.out
      clear gg
      go_wp2
      go_roundw
      case rel => exact ⟨j + 1, _, by omega, rfl, by go_num, hideIt (by have := hkk.out; omega), hg⟩
      case measure => simp [intOf]; omega
    · have hj2 : j = n := by omega
      subst hj2
      go_wp2
      go_ret
      exact ⟨ret_int hkk.out, hg.out⟩
def cnI (xs : List InstD) (j : Nat) : Nat := ((xs.take j).map fun x => 2 + x.nets.length).sum
theorem cnI_zero (xs : List InstD) : cnI xs 0 = 0 := rfl
theorem cnI_succ {xs : List InstD} {j : Nat} {x : InstD} (h : xs[j]? = some x) : cnI xs (j + 1) = cnI xs j + (2 + x.nets.length) := sum_take_succ (f := fun x : InstD => 2 + x.nets.length) h
theorem cnI_le (xs : List InstD) (j : Nat) : cnI xs j ≤ cnI xs xs.length := by
  unfold cnI
  rw [List.take_of_length_le (Nat.le_refl _)]
  exact sum_take_le _ xs j
def mkInsts (k : Int) (xs : List InstD) : List InstD := xs.mapIdx fun j x => ⟨mkT (k + (cnI xs j : Int)), k + (cnI xs j : Int) + 1, mkL (k + (cnI xs j : Int) + 1 + 1) x.nets.length⟩
theorem mkInsts_len (k : Int) (xs : List InstD) : (mkInsts k xs).length = xs.length := by simp [mkInsts]
theorem mkInsts_at {k : Int} {xs : List InstD} {j : Nat} {x : InstD} (h : xs[j]? = some x) : (mkInsts k xs)[j]? = some ⟨mkT (k + (cnI xs j : Int)), k + (cnI xs j : Int) + 1, mkL (k + (cnI xs j : Int) + 1 + 1) x.nets.length⟩ := by simp [mkInsts, h]
def instF (k : Int) (xs : List InstD) (cs : Array Value) (o : Nat) : Option Value := if o % 3 = 0 then some (.string (mkT (k + (cnI xs (o / 3) : Int)))) else if o % 3 = 1 then some (.int .i64 (k + (cnI xs (o / 3) : Int) + 1)) else cs[o]?
theorem instF_0 (k : Int) (xs : List InstD) (cs : Array Value) (j : Nat) : instF k xs cs (j * 3) = some (.string (mkT (k + (cnI xs j : Int)))) := by
  unfold instF
  rw [if_pos (by omega), show j * 3 / 3 = j by omega]
theorem instF_1 (k : Int) (xs : List InstD) (cs : Array Value) (j : Nat) : instF k xs cs (j * 3 + 1) = some (.int .i64 (k + (cnI xs j : Int) + 1)) := by
  unfold instF
  rw [if_neg (by omega), if_pos (by omega), show (j * 3 + 1) / 3 = j by omega]
theorem instF_2 (k : Int) (xs : List InstD) (cs : Array Value) (j : Nat) : instF k xs cs (j * 3 + 2) = cs[j * 3 + 2]? := by
  unfold instF
  rw [if_neg (by omega), if_neg (by omega)]
theorem MkV.more {t : TypeId} {F : Nat → Option Value} {w wr : World} {g n : Nat} {cs : Array Value} {bs bs' : List Nat} (h : MkV t F w g cs bs n wr) (hs : ∀ q ∈ bs, q ∈ bs') : MkV t F w g cs bs' n wr :=
  ⟨h.ex, h.chg.mono fun q hq => by
    rcases List.mem_cons.1 hq with rfl | hq
    · exact List.mem_cons_self ..
    · exact List.mem_cons_of_mem _ (hs q hq)⟩
theorem MkV.part {t : TypeId} {F : Nat → Option Value} {w wr : World} {g n i : Nat} {cs : Array Value} {bss : List (List Nat)} {b : List Nat} (st : MkV t F w g cs (bss.take i).flatten n wr) (hn : (g :: bss.flatten).Nodup) (hb : bss[i]? = some b) (hl : ∀ q ∈ b, q < w.heap.size) : SameOn b w wr :=
  st.chg.same hl fun q hq hm => by
    obtain ⟨h1, _, _, h4⟩ := part_of hn hb
    rcases List.mem_cons.1 hm with rfl | hm
    · exact h1 hq
    · exact h4 q hq hm
/-- the nested rows that are marked already -/
def Nst (cs : Array Value) (k : Int) (xs : List InstD) (bss : List (List Nat)) (j : Nat) (wr : World) : Prop :=
  ∀ (i : Nat) (x : InstD) (b : List Nat), i < j → xs[i]? = some x → bss[i]? = some b → ∃ v, cs[i * 3 + 2]? = some v ∧ OInts wr v (mkL (k + (cnI xs i : Int) + 1 + 1) x.nets.length) b
theorem Nst.chg {cs : Array Value} {k : Int} {xs : List InstD} {bss : List (List Nat)} {j : Nat} {wr u : World} {ds : List Nat} (h : Nst cs k xs bss j wr) (c : Chg ds wr u) (hd : ∀ q ∈ (bss.take j).flatten, q ∉ ds) : Nst cs k xs bss j u := fun i x b hi hx hb => by
  obtain ⟨v, e, o⟩ := h i x b hi hx hb
  exact ⟨v, e, o.same (c.same o.lt fun q hq => hd q (List.mem_flatten.2 ⟨b, List.mem_of_getElem? (by rw [List.getElem?_take, if_pos hi]; exact hb), hq⟩))⟩
set_option maxHeartbeats 8000000 in
set_option maxRecDepth 10000 in
theorem markInsts_v {v : Value} {xs : List InstD} {bs : List Nat} (k : Int) (w : World) (h : OInsts w v xs bs) (hnd : bs.Nodup) (hw : xs.length ≤ 1048576) (hwn : cnI xs xs.length ≤ 1000000) (hk : 0 ≤ k) (hk2 : k ≤ 900000000000) :
    Calls Tryz.prog 26 #[v, .int .i64 k] w (MarkV (fun w' bs => OInsts w' v (mkInsts k xs) bs) (cnI xs xs.length) k bs w) := by
  rcases h with ⟨rfl, rfl, rfl⟩ | ⟨g, c, cs, bss, rfl, h1, h2, hb, hl, rfl, hc⟩
  · go_enter Tryz.func26, Tryz.ntmps26
    go_wp2
    go_loopw [1, 5] (fun q i wr => q = .int .i64 k ∧ i = .int .i64 0 ∧ wr = w) (fun _ _ _ => 0)
    case atStart => exact ⟨rfl, rfl, rfl⟩
    case round =>
      obtain ⟨rfl, rfl, rfl⟩ := hrel
      go_wp2
      go_ret
      exact ⟨ret_int (by simp [cnI]), .inl ⟨rfl, rfl, rfl⟩, Chg.refl _ _⟩
  · have ST0 : MkV 77 (instF k xs cs) w g cs (bss.take 0).flatten 0 w := (MkV.start hb).more (fun _ h => h)
    have ST0 := hideIt ST0
    have NS0 : Hid (Nst cs k xs bss 0 w) := hideIt (fun i _ _ hi => absurd hi (Nat.not_lt_zero _))
    have ND := hideIt hnd
    have HC := hideIt hc
    have H1 := hideIt h1
    have H2 := hideIt h2
    have HL := hideIt hl
    have HW := hideIt hwn
    have NG : Hid (∀ j, ∀ q ∈ (bss.take j).flatten, q ∉ [g]) := hideIt fun j q hq hm => by
      simp at hm
      subst hm
      exact (List.nodup_cons.1 hnd).1 (part_all q hq)
    clear hc hb hl h1 h2 hnd hwn
    go_enter Tryz.func26, Tryz.ntmps26
    go_wp2
    go_loopw [1, 5] (fun q i wr => ∃ (j : Nat) (kk : Int), j ≤ xs.length ∧ q = .int .i64 kk ∧ i = .int .i64 (j : Int) ∧ Hid (kk = k + (cnI xs j : Int)) ∧ Hid (MkV 77 (instF k xs cs) w g cs (bss.take j).flatten (j * 3) wr) ∧ Hid (Nst cs k xs bss j wr)) (fun _ i _ => xs.length - (intOf i).toNat)
    case atStart => exact ⟨0, k, Nat.zero_le _, rfl, rfl, hideIt (by simp [cnI]), ST0, NS0⟩
    case round =>
      obtain ⟨j, kk, hj, rfl, rfl, hkk, hst, hns⟩ := hrel
      have k0 : 0 ≤ kk := by have := hkk.out; omega
      have k1 : kk ≤ 900001000000 := by have := hkk.out; have := cnI_le xs j; have := HW.out; omega
      by_cases hlt : j < xs.length
      · obtain ⟨x, hx⟩ : ∃ x, xs[j]? = some x := ⟨_, List.getElem?_eq_getElem hlt⟩
        obtain ⟨es, b, hes, hcs, hbi, ho⟩ := HC.out j x hx
        have HX := hideIt hx
        have HBI := hideIt hbi
        have PM := hideIt (part_mem hbi)
        have PO := hideIt (part_of ND.out hbi)
        have st1 := hideIt (hst.out.more (part_mem hbi).1)
        have ho := ho.same (hst.out.part ND.out hbi ho.lt)
        obtain ⟨v2, b2, ee, -, h2, eb⟩ := ho
        subst ee
        have eb2 := eb.symm
        subst eb2
        have G2 : Hid (g ∉ b2) := hideIt PO.out.1
        have M2 : Hid (∀ q ∈ b2, q ∈ (bss.take (j + 1)).flatten) := hideIt PM.out.2
        have O2 := hideIt h2
        obtain ⟨A2, n2, rfl⟩ : ∃ (A : Option Addr) (q : Nat), v2 = .slice A x.nets.length q := by obtain ⟨A, q, e, -⟩ := RList.form h2.reads; exact ⟨A, q, e⟩
        have HH := hideIt (hcs 2 _ rfl)
        have hnl : x.nets.length ≤ 1000000 := by have := cnI_succ hx; have := cnI_le xs (j + 1); have := HW.out; omega
        have hnn : SmL x.nets ∨ True := .inr trivial
        have hsz : j * 3 + 2 < cs.size := (Array.getElem?_eq_some_iff.1 (hcs 2 _ rfl)).1
        clear hx hcs hes hst h2 hbi hnn
        obtain ⟨o0, c0⟩ := st1.out.has (o := j * 3) (by omega)
        obtain ⟨o1, c1⟩ := st1.out.has (o := j * 3 + 1) (by omega)
        have c2 : wr.cell? ⟨g, j * 3 + 2, none⟩ = some (.slice A2 x.nets.length n2) := st1.out.at (by omega) HH.out
        have cf := st1.out.frozen
        have cl := st1.out.lt
        go_wp2_with fail
        clear c0 c1 c2 cf cl
        refine (markText_v _ _ (by omega) (by omega)).mono ?_
        rintro e z1 ⟨rfl, gg⟩
        replace st1 := hideIt (st1.out.grows gg)
        replace O2 := hideIt (O2.out.same ((SameOn.refl _ _).grows O2.out.lt gg))
        replace hns := hideIt (hns.out.chg (Chg.of_grows (bs := []) gg) (by simp))
        clear gg
        obtain ⟨o0, c0⟩ := st1.out.has (o := j * 3) (by omega)
        obtain ⟨o1, c1⟩ := st1.out.has (o := j * 3 + 1) (by omega)
        have c2 : z1.cell? ⟨g, j * 3 + 2, none⟩ = some (.slice A2 x.nets.length n2) := st1.out.at (by omega) HH.out
        have cf := st1.out.frozen
        have cl := st1.out.lt
        obtain ⟨tx, htx⟩ : ∃ tx, tx = mkT kk := ⟨_, rfl⟩
        have HT := hideIt htx
        rw [← htx]
        clear htx
        go_wp2_with fail
        clear c0 c1 c2 cf cl
        refine at_world (fun u => MkV 77 (instF k xs cs) w g cs (bss.take (j + 1)).flatten (j * 3 + 2) u ∧ OInts u (.slice A2 x.nets.length n2) x.nets b2 ∧ Nst cs k xs bss j u)
          ⟨(st1.out.store (v := .string tx) (by rw [instF_0, HT.out, hkk.out]) (by omega)).store (v := .int .i64 (kk + 1)) (by rw [instF_1, hkk.out]) (by omega), O2.out.same (SameOn.set (SameOn.set (SameOn.refl _ _) (fun q hq e => G2.out (by have e2 : q = g := e; rw [← e2]; exact hq)) _) (fun q hq e => G2.out (by have e2 : q = g := e; rw [← e2]; exact hq)) _),
           (hns.out.chg ((Chg.refl [g] _).setCell (p := ⟨g, j * 3, none⟩) (by simp) _) (NG.out j)).chg ((Chg.refl [g] _).setCell (p := ⟨g, j * 3 + 1, none⟩) (by simp) _) (NG.out j)⟩ (fun z2 hz => ?_)
        obtain ⟨sa, p2, na⟩ := hz
        replace st1 := hideIt sa
        replace O2 := hideIt p2
        replace hns := hideIt na
        clear sa p2 na
        refine (markInts_any _ _ O2.out (by unfold SmL; omega) (by omega) (by omega)).mono ?_
        rintro e z3 ⟨rfl, o9, cc⟩
        replace st1 := hideIt (st1.out.call cc M2.out G2.out)
        have NS2 : Hid (Nst cs k xs bss (j + 1) z3) := hideIt (fun i y d hi hy hd => by
          rcases Nat.lt_or_ge i j with hij | hij
          · exact (hns.out.chg cc (fun q hq hm => PO.out.2.2.2 q hm hq)) i y d hij hy hd
          · obtain rfl : i = j := by omega
            have e1 := HX.out.symm.trans hy
            have e2 := HBI.out.symm.trans hd
            injection e1 with e1
            injection e2 with e2
            subst e1 e2
            refine ⟨_, HH.out, ?_⟩
            rw [← hkk.out]
            exact o9)
        clear cc O2 o9 hns
        obtain ⟨o0, c0⟩ := st1.out.has (o := j * 3) (by omega)
        obtain ⟨o1, c1⟩ := st1.out.has (o := j * 3 + 1) (by omega)
        have c2 : z3.cell? ⟨g, j * 3 + 2, none⟩ = some (.slice A2 x.nets.length n2) := st1.out.at (by omega) HH.out
        have cf := st1.out.frozen
        have cl := st1.out.lt
        go_wp2
        go_roundw
        case rel => exact ⟨j + 1, _, by omega, rfl, by go_num, hideIt (by have := hkk.out; have := cnI_succ HX.out; omega), hideIt (by
          have s3 := st1.out.skip (by rw [instF_2])
          rw [show (j + 1) * 3 = j * 3 + 2 + 1 by omega]
          exact s3), NS2⟩
        case measure => simp [intOf]; omega
      · obtain rfl : j = xs.length := by omega
        go_wp2
        go_ret
        refine ⟨ret_int hkk.out, ?_, hst.out.chg.mono fun q hq => by
          rcases List.mem_cons.1 hq with rfl | hq
          · exact List.mem_cons_self ..
          · exact List.mem_cons_of_mem _ (part_all q hq)⟩
        have := MkV.list (sz := 3) (O := OInst) (ys := mkInsts k xs) (c := c) (bss := bss) (by rw [mkInsts_len]; exact hst.out) (by rw [mkInsts_len]; exact H1.out) H2.out (by rw [mkInsts_len]; exact HL.out) (fun i y hy => by
          have hi : i < xs.length := by have := (List.getElem?_eq_some_iff.1 hy).1; rwa [mkInsts_len] at this
          obtain ⟨x, hx⟩ : ∃ x, xs[i]? = some x := ⟨_, List.getElem?_eq_getElem hi⟩
          rw [mkInsts_at hx] at hy
          injection hy with hy
          subst hy
          obtain ⟨es, b, hes, hcs, hbi, ho⟩ := HC.out i x hx
          obtain ⟨v2, e2, o2⟩ := hns.out i x b hi hx hbi
          have hci := cnI_le xs i
          have hcw := HW.out
          refine ⟨_, b, by rfl, fun j u hu => ?_, hbi, ⟨v2, b, rfl, mkT_size _ (by omega) (by omega), o2, rfl⟩⟩
          match j, hu with
          | 0, hu => simp at hu; subst hu; exact instF_0 k xs cs i
          | 1, hu => simp at hu; subst hu; exact instF_1 k xs cs i
          | 2, hu => simp at hu; subst hu; rw [instF_2, e2])
        rwa [mkInsts_len] at this
set_option maxHeartbeats 4000000 in
theorem heldInsts_v {v : Value} {xs : List InstD} (k : Int) (w : World) (h : RInsts w v (mkInsts k xs)) (hn : xs.length ≤ 1048576) (hwn : cnI xs xs.length ≤ 1000000) (hk : 0 ≤ k) (hk2 : k ≤ 900000000000) :
    Calls Tryz.prog 29 #[v, .int .i64 k] w fun e w' => e = .returned (.int .i64 (k + (cnI xs xs.length : Int))) ∧ Grows w w' := by
  obtain ⟨A, c, hv, hle, hc, hx⟩ := h.form
  rw [mkInsts_len] at hv hle
  subst hv
  have HX := hideIt hx
  have HW := hideIt hwn
  clear hx h hle hc hwn
  go_enter Tryz.func29, Tryz.ntmps29
  go_wp2
  go_loopw [1, 5] (fun q i wr => ∃ (j : Nat) (kk : Int), j ≤ xs.length ∧ q = .int .i64 kk ∧ i = .int .i64 (j : Int) ∧ Hid (kk = k + (cnI xs j : Int)) ∧ Hid (Grows w wr)) (fun _ i _ => xs.length - (intOf i).toNat)
  case atStart => exact ⟨0, k, Nat.zero_le _, rfl, rfl, hideIt (by simp [cnI]), hideIt (Grows.refl _)⟩
  case round =>
    obtain ⟨j, kk, hj, rfl, rfl, hkk, hg⟩ := hrel
    have k0 : 0 ≤ kk := by have := hkk.out; omega
    have k1 : kk ≤ 900001000000 := by have := hkk.out; have := cnI_le xs j; have := HW.out; omega
    by_cases hlt : j < xs.length
    · obtain ⟨x, hxx⟩ : ∃ x, xs[j]? = some x := ⟨_, List.getElem?_eq_getElem hlt⟩
      obtain ⟨b, off, rfl, cs, hl1, hcs, hr⟩ := HX.out j _ (mkInsts_at hxx)
      obtain ⟨v2, rfl, -, hri⟩ := hr
      have hnl : x.nets.length ≤ 1000000 := by have := cnI_succ hxx; have := cnI_le xs (j + 1); have := HW.out; omega
      have HXX := hideIt hxx
      have hs0 := hcs 0 _ rfl
      have hs1 := hcs 1 _ rfl
      have hs2 := hcs 2 _ rfl
      dsimp only at hs0 hs1 hs2 hri
      rw [← hkk.out] at hs0 hs1 hri
      obtain ⟨A2, n2, rfl⟩ : ∃ (A : Option Addr) (q : Nat), v2 = .slice A x.nets.length q := by obtain ⟨A, q, e, -⟩ := RList.form hri; rw [mkL_len] at e; exact ⟨A, q, e⟩
      have HRI := hideIt (hri.keep hg.out.keeps)
      have hs : wr.cell? ⟨b, off + j * 3, none⟩ = some (.string (mkT kk)) := by simpa using hg.out.keeps _ _ hs0
      obtain ⟨tx, htx⟩ : ∃ tx, tx = mkT kk := ⟨_, rfl⟩
      rw [← htx] at hs
      have HS := hideIt hs
      have HS1 : Hid (wr.cell? ⟨b, off + j * 3 + 1, none⟩ = some (.int .i64 (kk + 1))) := hideIt (by rw [Nat.add_assoc]; simpa using hg.out.keeps _ _ hs1)
      have HS2 : Hid (wr.cell? ⟨b, off + j * 3 + 2, none⟩ = some (.slice A2 x.nets.length n2)) := hideIt (by rw [Nat.add_assoc]; simpa using hg.out.keeps _ _ hs2)
      have HT := hideIt htx
      clear htx hcs hl1 hs0 hs1 hs2 hs hri hxx
      go_upto_region 4 with fail
      have gg : Grows wr wr := Grows.refl _
      refine wp_region_held_drew (S := (fun w' => Grows wr w')) (by kernel_rfl) ?_ (fun hh0 => ?_)
      · (try dsimp only); (repeat with_reducible (first | exact gg | exact Grows.refl _ | refine Grows.drew ?_))
      refine regTk 0 hh0 ?_
      refine regTk 1 hh0 ?_
      refine regTk 2 hh0 ?_
      refine regTk 3 hh0 ?_
      refine regTake 4 (v := .string tx) (fun w hw => ?_) hh0 ?_
      · have k0 := hw.keeps _ _ HS.out
        go_simp
      try simp only [Act.put, List.setIfInBounds_toArray, List.set_cons_zero, List.set_cons_succ]
      refine regTk 5 hh0 ?_
      refine regCall 6 (fun K hK => ?_)
      go_simp
      have gq := (Grows.refl wr).drew
      refine (markText_v _ _ (by omega) (by omega)).mono ?_
      rintro e z1 ⟨rfl, g⟩
      rw [← HT.out]
      have gg : Grows wr z1 := gq.trans g
      clear g gq
      (try go_wp2_with fail)
      refine hK.out _ _ ?_ (fun hh1 => ?_)
      · (try dsimp only); (repeat with_reducible (first | exact gg | exact Grows.refl _ | refine Grows.drew ?_))
      clear hK K hh0
      try simp only [Act.put, List.setIfInBounds_toArray, List.set_cons_zero, List.set_cons_succ]
      refine regTk 7 hh1 ?_
      refine wpAnyH_done (by kernel_rfl) ?_ _
      clear hh1
      replace hg := hideIt (hg.out.trans gg)
      replace HRI := hideIt (HRI.out.keep gg.keeps)
      have hc1 := gg.keeps _ _ HS1.out
      have hc2 := gg.keeps _ _ HS2.out
      clear gg
      go_wp2_with fail
      refine (heldInts_any _ _ HRI.out (by omega) (by omega) (by omega)).mono ?_
      rintro e z2 ⟨rfl, g2⟩
      replace hg := hideIt (hg.out.trans g2)
      clear g2 HRI hc1 hc2
      go_wp2
      go_roundw
      case rel => exact ⟨j + 1, _, by omega, rfl, by go_num, hideIt (by have := hkk.out; have := cnI_succ HXX.out; omega), hg⟩
      case measure => simp [intOf]; omega
    · have hj2 : j = xs.length := by omega
      subst hj2
      go_wp2
      go_ret
      exact ⟨ret_int hkk.out, hg.out⟩
def mkD (k : Int) (x : DesignD) : DesignD := ⟨mkInsts k x.insts, mkStrs (k + (cnI x.insts x.insts.length : Int)) x.nets.length, mkPorts (k + (cnI x.insts x.insts.length : Int) + (x.nets.length : Int)) x.ports.length⟩
def cnD (x : DesignD) : Nat := cnI x.insts x.insts.length + x.nets.length + x.ports.length * 3
/-- of few parts, for marks -/
def FewD (x : DesignD) : Prop := x.insts.length ≤ 1048576 ∧ cnI x.insts x.insts.length ≤ 1000000 ∧ x.nets.length ≤ 1048576 ∧ x.ports.length ≤ 1048576
set_option maxHeartbeats 2000000 in
theorem markDesign_v {vv0 vv1 vv2 : Value} {x : DesignD} {bs : List Nat} (k : Int) (w : World) (h : ODesign w [vv0, vv1, vv2] x bs) (hnd : bs.Nodup) (hw : FewD x) (hk : 0 ≤ k) (hk2 : k ≤ 100000000000) :
    Calls Tryz.prog 11 #[.agg #[vv0, vv1, vv2], .int .i64 k] w (MarkV (fun w' bs => ODesign w' [vv0, vv1, vv2] (mkD k x) bs) (cnD x) k bs w) := by
  obtain ⟨w0, w1, w2, b0, b1, b2, ee, h0, h1, h2, eb⟩ := h
  injection ee with e0 ee
  injection ee with e1 ee
  injection ee with e2 ee
  subst e0 e1 e2
  have eb2 := eb.symm
  subst eb2
  clear ee eb
  obtain ⟨l2, r2, x2, y2⟩ := nodup2 hnd
  obtain ⟨l1, r1, x1, y1⟩ := nodup2 l2
  have D0 := hideIt l1
  have N0_1 : Hid (∀ q ∈ b0, q ∉ b1) := hideIt fun q hm hn => x1 q hm hn
  have N1_0 : Hid (∀ q ∈ b1, q ∉ b0) := hideIt fun q hm hn => y1 q hm hn
  have N0_2 : Hid (∀ q ∈ b0, q ∉ b2) := hideIt fun q hm hn => x2 q (by simp [hm]) hn
  have N2_0 : Hid (∀ q ∈ b2, q ∉ b0) := hideIt fun q hm hn => y2 q hm (by simp [hn])
  have N1_2 : Hid (∀ q ∈ b1, q ∉ b2) := hideIt fun q hm hn => x2 q (by simp [hm]) hn
  have N2_1 : Hid (∀ q ∈ b2, q ∉ b1) := hideIt fun q hm hn => y2 q hm (by simp [hn])
  clear hnd l1 r1 x1 y1 l2 r2 x2 y2
  have g0 := (Grows.refl w).alloc (.cells #[vv0, vv1, vv2] 30)
  have SB := hideIt (Blk.new w 30 #[vv0, vv1, vv2])
  have CH : Hid (Chg (b0 ++ b1 ++ b2) w (w.alloc (.cells #[vv0, vv1, vv2] 30))) := hideIt (Chg.of_grows g0)
  have B0 : Hid (w.heap.size ∉ b0) := hideIt fun hm => by have := h0.lt _ hm; omega
  have O0 := hideIt (h0.same ((SameOn.refl _ _).grows h0.lt g0))
  have B1 : Hid (w.heap.size ∉ b1) := hideIt fun hm => by have := h1.lt _ hm; omega
  have O1 := hideIt (h1.same ((SameOn.refl _ _).grows h1.lt g0))
  have B2 : Hid (w.heap.size ∉ b2) := hideIt fun hm => by have := h2.lt _ hm; omega
  have O2 := hideIt (h2.same ((SameOn.refl _ _).grows h2.lt g0))
  obtain ⟨f0, f1, f2, f3⟩ := hw
  obtain ⟨n0, en0⟩ : ∃ n0, n0 = cnI x.insts x.insts.length := ⟨_, rfl⟩
  have EN := hideIt en0
  rw [← en0] at f1
  clear g0 h0 h1 h2 en0
  go_enter Tryz.func11, Tryz.ntmps11
  go_wp2_with fail
  refine (markInsts_v _ _ O0.out D0.out (by omega) (by rw [← EN.out]; exact f1) (by omega) (by omega)).mono ?_
  rintro e z0 ⟨rfl, om, cc⟩
  rw [← EN.out]
  replace CH := hideIt (CH.out.trans (cc.mono (fun q hq => by simp [hq])))
  replace SB := hideIt (SB.out.chg cc B0.out)
  replace O0 := hideIt om
  replace O1 := hideIt (O1.out.same (cc.same O1.out.lt N1_0.out))
  replace O2 := hideIt (O2.out.same (cc.same O2.out.lt N2_0.out))
  clear cc om
  have c0 : z0.cell? ⟨w.heap.size, 0, none⟩ = some (vv0) := SB.out.cell 0
  have c1 : z0.cell? ⟨w.heap.size, 1, none⟩ = some (vv1) := SB.out.cell 1
  have c2 : z0.cell? ⟨w.heap.size, 2, none⟩ = some (vv2) := SB.out.cell 2
  have cl := SB.out.lt
  have cf := SB.out.frozen
  go_wp2_with fail
  clear c0 c1 c2 cl cf
  refine (markStrs_v _ _ O1.out (by omega) (by omega) (by omega)).mono ?_
  rintro e z1 ⟨rfl, om, cc⟩
  replace CH := hideIt (CH.out.trans (cc.mono (fun q hq => by simp [hq])))
  replace SB := hideIt (SB.out.chg cc B1.out)
  replace O1 := hideIt om
  replace O0 := hideIt (O0.out.same (cc.same O0.out.lt N0_1.out))
  replace O2 := hideIt (O2.out.same (cc.same O2.out.lt N2_1.out))
  clear cc om
  have c0 : z1.cell? ⟨w.heap.size, 0, none⟩ = some (vv0) := SB.out.cell 0
  have c1 : z1.cell? ⟨w.heap.size, 1, none⟩ = some (vv1) := SB.out.cell 1
  have c2 : z1.cell? ⟨w.heap.size, 2, none⟩ = some (vv2) := SB.out.cell 2
  have cl := SB.out.lt
  have cf := SB.out.frozen
  go_wp2_with fail
  clear c0 c1 c2 cl cf
  refine (markPorts_v _ _ O2.out (by omega) (by omega) (by omega)).mono ?_
  rintro e z2 ⟨rfl, om, cc⟩
  replace CH := hideIt (CH.out.trans (cc.mono (fun q hq => by simp [hq])))
  replace SB := hideIt (SB.out.chg cc B2.out)
  replace O2 := hideIt om
  replace O0 := hideIt (O0.out.same (cc.same O0.out.lt N0_2.out))
  replace O1 := hideIt (O1.out.same (cc.same O1.out.lt N1_2.out))
  clear cc om
  have c0 : z2.cell? ⟨w.heap.size, 0, none⟩ = some (vv0) := SB.out.cell 0
  have c1 : z2.cell? ⟨w.heap.size, 1, none⟩ = some (vv1) := SB.out.cell 1
  have c2 : z2.cell? ⟨w.heap.size, 2, none⟩ = some (vv2) := SB.out.cell 2
  have cl := SB.out.lt
  have cf := SB.out.frozen
  go_wp2
  go_ret
  refine ⟨ret_int (by have := EN.out; unfold cnD; omega), ⟨_, _, _, b0, b1, b2, rfl, O0.out, ?_, ?_, rfl⟩, CH.out⟩
  · have h := O1.out
    rw [EN.out] at h
    exact h
  · have h := O2.out
    rw [EN.out] at h
    exact h
set_option maxHeartbeats 2000000 in
theorem heldDesign_v {vv0 vv1 vv2 : Value} {x : DesignD} (k : Int) (w : World) (h : RDesign w [vv0, vv1, vv2] (mkD k x)) (hw : FewD x) (hk : 0 ≤ k) (hk2 : k ≤ 100000000000) :
    Calls Tryz.prog 12 #[.agg #[vv0, vv1, vv2], .int .i64 k] w fun e w' => e = .returned (.int .i64 (k + (cnD x : Int))) ∧ Grows w w' := by
  obtain ⟨h0, h1, h2⟩ := h.parts
  have g0 := (Grows.refl w).alloc (.cells #[vv0, vv1, vv2] 30)
  have SB := hideIt (Blk.new w 30 #[vv0, vv1, vv2])
  have H0 := hideIt (h0.keep g0.keeps)
  have H1 := hideIt (h1.keep g0.keeps)
  have H2 := hideIt (h2.keep g0.keeps)
  have G := hideIt g0
  obtain ⟨f0, f1, f2, f3⟩ := hw
  obtain ⟨n0, en0⟩ : ∃ n0, n0 = cnI x.insts x.insts.length := ⟨_, rfl⟩
  have EN := hideIt en0
  rw [← en0] at f1
  have K1 : Hid (RStrs _ vv1 (mkStrs (k + (n0 : Int)) x.nets.length)) := hideIt (by rw [EN.out]; exact H1.out)
  have K2 : Hid (RPorts _ vv2 (mkPorts (k + (n0 : Int) + (x.nets.length : Int)) x.ports.length)) := hideIt (by rw [EN.out]; exact H2.out)
  clear g0 h0 h1 h2 h en0 H1 H2
  go_enter Tryz.func12, Tryz.ntmps12
  go_wp2_with fail
  refine (heldInsts_v (xs := x.insts) _ _ H0.out (by omega) (by rw [← EN.out]; exact f1) (by omega) (by omega)).mono ?_
  rintro e z0 ⟨rfl, gg⟩
  rw [← EN.out]
  replace G := hideIt (G.out.trans gg)
  replace SB := hideIt (SB.out.grows gg)
  replace K1 := hideIt (K1.out.keep gg.keeps)
  replace K2 := hideIt (K2.out.keep gg.keeps)
  clear gg H0
  have c0 : z0.cell? ⟨w.heap.size, 0, none⟩ = some (vv0) := SB.out.cell 0
  have c1 : z0.cell? ⟨w.heap.size, 1, none⟩ = some (vv1) := SB.out.cell 1
  have c2 : z0.cell? ⟨w.heap.size, 2, none⟩ = some (vv2) := SB.out.cell 2
  have cl := SB.out.lt
  have cf := SB.out.frozen
  go_wp2_with fail
  clear c0 c1 c2 cl cf
  refine (heldStrs_v _ _ K1.out (by omega) (by omega) (by omega)).mono ?_
  rintro e z1 ⟨rfl, gg⟩
  replace G := hideIt (G.out.trans gg)
  replace SB := hideIt (SB.out.grows gg)
  replace K2 := hideIt (K2.out.keep gg.keeps)
  clear gg K1
  have c0 : z1.cell? ⟨w.heap.size, 0, none⟩ = some (vv0) := SB.out.cell 0
  have c1 : z1.cell? ⟨w.heap.size, 1, none⟩ = some (vv1) := SB.out.cell 1
  have c2 : z1.cell? ⟨w.heap.size, 2, none⟩ = some (vv2) := SB.out.cell 2
  have cl := SB.out.lt
  have cf := SB.out.frozen
  go_wp2_with fail
  clear c0 c1 c2 cl cf
  refine (heldPorts_v _ _ K2.out (by omega) (by omega) (by omega)).mono ?_
  rintro e z2 ⟨rfl, gg⟩
  replace G := hideIt (G.out.trans gg)
  replace SB := hideIt (SB.out.grows gg)
  clear gg K2
  have c0 : z2.cell? ⟨w.heap.size, 0, none⟩ = some (vv0) := SB.out.cell 0
  have c1 : z2.cell? ⟨w.heap.size, 1, none⟩ = some (vv1) := SB.out.cell 1
  have c2 : z2.cell? ⟨w.heap.size, 2, none⟩ = some (vv2) := SB.out.cell 2
  have cl := SB.out.lt
  have cf := SB.out.frozen
  go_wp2
  go_ret
  exact ⟨ret_int (by have := EN.out; unfold cnD; omega), G.out⟩
end Go.Proofs.YtocahjbmnkadjaaGreatDoor
