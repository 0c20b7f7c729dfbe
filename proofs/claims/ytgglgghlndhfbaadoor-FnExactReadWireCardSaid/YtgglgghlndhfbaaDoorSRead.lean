/-
  Numbers read from a text, and written, the reference's.
-/
import Derived.Test.YtgglgghlndhfbaaDoorSValue
namespace Go.Proofs.YtgglgghlndhfbaaDoor
open Go.RowKit
def ReadsPost (s : ByteArray) (w : World) (e : Ending) (w' : World) : Prop :=
  ∃ (A : Option Addr) (c : Nat) (xs : List Int) (bs : List Nat), e = .returned (.slice A xs.length c) ∧ OInts w' (.slice A xs.length c) xs bs ∧ Own w.heap.size w'.heap.size bs ∧ (∀ ys, ys ≠ [] → (∀ y ∈ ys, okN y) → s.data.toList = listL ys → xs = ys) ∧ Grows w w'
theorem ReadsPost.mk' {s : ByteArray} {w w' : World} {A : Option Addr} {c n : Nat} {xs : List Int} {bs : List Nat} (en : n = xs.length) (h1 : OInts w' (.slice A xs.length c) xs bs) (h2 : Own w.heap.size w'.heap.size bs) (h : ∀ ys, ys ≠ [] → (∀ y ∈ ys, okN y) → s.data.toList = listL ys → xs = ys) (g : Grows w w') : ReadsPost s w (.returned (.slice A n c)) w' := by
  subst en
  exact ⟨A, c, xs, bs, rfl, h1, h2, h, g⟩
/-- as ReadsPost, with the empty text and the length -/
def ReadsPostW (s : ByteArray) (w : World) (e : Ending) (w' : World) : Prop :=
  ∃ (A : Option Addr) (c : Nat) (xs : List Int) (bs : List Nat), e = .returned (.slice A xs.length c) ∧ OInts w' (.slice A xs.length c) xs bs ∧ Own w.heap.size w'.heap.size bs ∧ (∀ ys, (∀ y ∈ ys, okN y) → s.data.toList = listL ys → xs = ys) ∧ xs.length ≤ s.size + 1 ∧ Grows w w'
theorem itoa_ne (n : Int) : Lib.itoa n ≠ [] := by
  unfold Lib.itoa
  split
  · simp
  · obtain ⟨c, l, e, _⟩ := dec_head n.toNat
    rw [e]
    simp
theorem listL_ne {ys : List Int} (h : ys ≠ []) : listL ys ≠ [] := by
  unfold listL
  match ys, h with
  | [y], _ => exact itoa_ne y
  | y :: z :: r, _ =>
    show Lib.itoa y ++ 44 :: joinL 44 ((z :: r).map Lib.itoa) ≠ []
    simp
theorem ReadsPostW.mk' {s : ByteArray} {w w' : World} {A : Option Addr} {c n : Nat} {xs : List Int} {bs : List Nat} (en : n = xs.length) (h1 : OInts w' (.slice A xs.length c) xs bs) (h2 : Own w.heap.size w'.heap.size bs) (h : ∀ ys, ys ≠ [] → (∀ y ∈ ys, okN y) → s.data.toList = listL ys → xs = ys) (h0 : s.data.toList = [] → xs = []) (hl : xs.length ≤ s.size + 1) (g : Grows w w') : ReadsPostW s w (.returned (.slice A n c)) w' := by
  subst en
  refine ⟨A, c, xs, bs, rfl, h1, h2, fun ys hy e => ?_, hl, g⟩
  by_cases hn : ys = []
  · subst hn
    exact h0 e
  · exact h ys hn hy e
theorem piece_len {s p : ByteArray} {c : UInt8} {ws : List ByteArray} (h : ws.map (·.data.toList) = splitL c s.data.toList) (hp : p ∈ ws) : p.size ≤ s.size := piece_size (c := c) (by rw [← h]; exact List.mem_map_of_mem hp)
set_option maxHeartbeats 8000000 in
set_option maxRecDepth 10000 in
theorem sReadsW_any (s : ByteArray) (w : World) (hs : s.size ≤ 1048576) : Calls Tryd.prog 32 #[.string s] w (ReadsPostW s w) := by
  obtain ⟨i0, hi, hz0, hz1, hz2⟩ := info_parts info_i64'
  have G0 : Hid (Grows w (w.alloc (.cells #[] 2))) := hideIt ((Grows.refl w).alloc _)
  have RO0 := hideIt (Blk.new w 2 #[])
  go_enter Tryd.func32, Tryd.ntmps32
  go_wp2_with fail
  refine (split_any s 44 44 rfl _ hs).mono ?_
  rintro e u1 ⟨v, ws, rfl, sa, pe, pl, g⟩
  obtain ⟨gW, cW, rfl, hcell⟩ := sa
  have PE := hideIt pe
  have GA := hideIt (G0.out.trans g)
  have RO := hideIt (RO0.out.grows g)
  have pne : 1 ≤ ws.length := by
    have h1 := split_ne 44 s.data.toList
    rw [← pe] at h1
    cases ws with
    | nil => exact absurd rfl h1
    | cons _ _ => simp
  have neW : gW ≠ w.heap.size := by
    obtain ⟨x, hx⟩ : ∃ x, ws[0]? = some x := ⟨_, List.getElem?_eq_getElem (by omega)⟩
    exact blk_empty_ne RO.out (hcell 0 x hx)
  have CE := hideIt hcell
  have own0 : Hid (u1.ownsRow w.heap.size 2 1 (.slice (some ⟨w.heap.size, 0, none⟩) 0 0) 0 []) := hideIt ⟨rfl, .inr ⟨_, 0, #[], rfl, Nat.le_refl _, RO.out, Nat.le_refl _, Nat.zero_le _, rfl, rfl⟩⟩
  clear pe g hcell RO0 G0
  go_wp2
  go_loopw [3, 5, 6, 7] (fun v i _ _ wr => ∃ (nv : Value) (xs : List Int) (j : Nat), nv = v ∧ j ≤ ws.length ∧ xs.length ≤ j ∧ i = .int .i64 (j : Int) ∧ Hid (wr.ownsRow w.heap.size 2 1 nv (xs).length ((xs).map (Value.int .i64))) ∧ Hid (∀ q, nv.ownBlock = some q → q = w.heap.size ∨ u1.heap.size ≤ q) ∧ Hid (Chg [w.heap.size] u1 wr) ∧ Hid (∀ ys : List Int, (∀ y ∈ ys, okN y) → ws.map (·.data.toList) = ys.map Lib.itoa → xs = ys.take j) ∧ Hid (s.data.toList = [] → xs = [])) (fun _ i _ _ _ => ws.length - (intOf i).toNat)
  case atStart => exact ⟨_, [], 0, rfl, Nat.zero_le _, Nat.le_refl _, rfl, own0, hideIt (fun q e => .inl (Option.some.inj e).symm), hideIt (Chg.refl _ _), hideIt (fun ys _ _ => by simp), hideIt (fun _ => rfl)⟩
  case round =>
    clear own0
    obtain ⟨nv, xs, j, rfl, hj, hxl, rfl, OW, NB, CH, UQ, EM⟩ := hrel
    have GW := hideIt (GA.out.chg CH.out (fun q hq => by simp at hq; subst hq; exact Nat.le_refl _))
    by_cases hlt : j < ws.length
    · obtain ⟨x, hx⟩ : ∃ x, ws[j]? = some x := ⟨_, List.getElem?_eq_getElem hlt⟩
      have kx : wr.cell? ⟨gW, j, none⟩ = some (.string x) := CH.out.cell (CE.out j x hx) (by simp [neW])
      have xsz : x.size ≤ 1048576 := Nat.le_trans (piece_len (c := 44) PE.out (List.mem_of_getElem? hx)) hs
      have hjs : (ws.map (·.data.toList))[j]? = some x.data.toList := by rw [List.getElem?_map, hx]; rfl
      have HJ := hideIt hjs
      clear hx hjs
      go_wp2_with fail
      refine (value_any x _ xsz).mono ?_
      rintro e u3 ⟨n, ok, rfl, hp, g⟩
      clear kx
      have CH3 := hideIt (CH.out.trans (Chg.of_grows g))
      have OW3 := hideIt (row_grows OW.out g)
      clear OW CH g GW
      cases ok
      · have UQ2 : Hid (∀ ys : List Int, (∀ y ∈ ys, okN y) → ws.map (·.data.toList) = ys.map Lib.itoa → xs = ys.take (j + 1)) := hideIt (fun ys hy e => by
          exfalso
          have h2 := HJ.out
          rw [e, List.getElem?_map] at h2
          obtain ⟨y, hy1, hy2⟩ := Option.map_eq_some_iff.1 h2
          have h3 := hp.2 y (hy y (List.mem_of_getElem? hy1)) hy2.symm
          cases h3.1)
        clear hp UQ
        go_wp2
        go_roundw
        case rel => exact ⟨_, xs, j + 1, rfl, by omega, by omega, by go_num, OW3, NB, CH3, UQ2, EM⟩
        case measure => first | (simp [intOf]; done) | (simp [intOf]; omega)
      · have UQ2 : Hid (∀ ys : List Int, (∀ y ∈ ys, okN y) → ws.map (·.data.toList) = ys.map Lib.itoa → xs ++ [n] = ys.take (j + 1)) := hideIt (fun ys hy e => by
          have h2 := HJ.out
          rw [e, List.getElem?_map] at h2
          obtain ⟨y, hy1, hy2⟩ := Option.map_eq_some_iff.1 h2
          have h3 := hp.2 y (hy y (List.mem_of_getElem? hy1)) hy2.symm
          rw [List.take_add_one, hy1, ← UQ.out ys hy e, h3.2]
          rfl)
        have EM2 : Hid (s.data.toList = [] → xs ++ [n] = []) := hideIt (fun e => by
          exfalso
          have h2 := HJ.out
          rw [PE.out, e] at h2
          have h3 := List.mem_of_getElem? h2
          simp only [splitL, List.mem_singleton] at h3
          have h4 := hp.1 rfl
          rw [h3] at h4
          exact itoa_ne n h4.symm)
        clear hp UQ EM
        have own1 := hideIt (OW3.out.alloc (.cells #[.int .i64 n] 2))
        have CA := hideIt (CH3.out.alloc (.cells #[.int .i64 n] 2))
        have lw : w.heap.size ≤ u3.heap.size := Nat.le_trans GA.out.size CH3.out.size
        have hb6 : w.heap.size ≤ (u3.alloc (.cells #[.int .i64 n] 2)).heap.size := by simp; omega
        clear OW3 CH3
        go_wp2_with (at_builtin; refine wpList_append_own_at _ rfl _ _ 27 rfl (w.heap.size) 2 i0 (.int .i64 0) 1 8 Tryd.underlying27 hi hz0 hz1 hz2 rfl (by decide) nv xs.length (xs.map (Value.int .i64)) rfl own1.out ⟨u3.heap.size, 0, none⟩ 1 1 [.int .i64 n] rfl ?c1 ?c2 ?c3 ?c4 ?c5 ?c6 ?_)
        case c1 => simp
        case c2 =>
          intro j u hj
          match j, hj with
          | 0, hj => simp at hj; subst hj; simp [Addr.add]
        case c3 => intro u hu; simp at hu; subst hu; rfl
        case c4 => unfold maxLen; omega
        case c5 => omega
        case c6 => exact hb6
        intro v' w4 hown3 hgrow hnil hat
        have CH4 := hideIt (CA.out.grown hgrow (fun q e => by
          rcases NB.out q e with h | h
          · exact .inl (by simp [h])
          · exact .inr h))
        have NB4 : Hid (∀ q, v'.ownBlock = some q → q = w.heap.size ∨ u1.heap.size ≤ q) := hideIt fun q e => by
          rcases hat with h | h
          · exact NB.out q (h ▸ e)
          · rw [h] at e
            injection e with e
            right
            have hs := CA.out.size
            simp at hs e
            omega
        have OW : Hid (w4.ownsRow w.heap.size 2 1 v' (xs ++ [n]).length ((xs ++ [n]).map (Value.int .i64))) := hideIt (by rw [List.length_append, List.map_append]; exact hown3)
        clear hown3 hgrow hnil hat own1 CA hb6
        go_wp2
        go_roundw
        case rel => exact ⟨_, xs ++ [n], j + 1, rfl, by omega, by simp; omega, by go_num, OW, NB4, CH4, UQ2, EM2⟩
        case measure => first | (simp [intOf]; done) | (simp [intOf]; omega)
    · obtain rfl : j = ws.length := by omega
      have PY : Hid (∀ ys, ys ≠ [] → (∀ y ∈ ys, okN y) → s.data.toList = listL ys → xs = ys) := hideIt (fun ys hn hy e => by
        have h1 : ws.map (·.data.toList) = ys.map Lib.itoa := by rw [PE.out, e, listL_words hn]
        have h2 := UQ.out ys hy h1
        have h3 : ws.length = ys.length := by have := congrArg List.length h1; simpa using this
        rw [h3, List.take_length] at h2
        exact h2)
      obtain ⟨A2, c2, bs, rfl, ho, how⟩ := own_oints OW.out
      have HO := hideIt ho
      have HW := hideIt how
      clear ho how OW UQ NB
      go_wp2
      go_ret
      exact .mk' rfl HO.out HW.out PY.out EM.out (by omega) GW.out
theorem sReads_any (s : ByteArray) (w : World) (hs : s.size ≤ 1048576) : Calls Tryd.prog 32 #[.string s] w (ReadsPost s w) := by
  refine (sReadsW_any s w hs).mono ?_
  rintro e w' ⟨A, c, xs, bs, h1, h2, h3, h4, _, h5⟩
  exact ⟨A, c, xs, bs, h1, h2, h3, fun ys _ => h4 ys, h5⟩
theorem join_snoc' {c : UInt8} {w : List UInt8} : ∀ {ws : List (List UInt8)}, ws ≠ [] → joinL c (ws ++ [w]) = joinL c ws ++ c :: w
  | [], h => absurd rfl h
  | [x], _ => rfl
  | x :: y :: r, _ => by
    show x ++ c :: joinL c ((y :: r) ++ [w]) = (x ++ c :: joinL c (y :: r)) ++ c :: w
    rw [join_snoc' (by simp)]
    simp
theorem itoa_len {n : Int} (h : okN n) : (Lib.itoa n).length ≤ 11 := by
  unfold okN at h
  unfold Lib.itoa
  split
  · have := dec_len 10 n.natAbs (by omega) (by omega)
    simp
    omega
  · have := dec_len 10 n.toNat (by omega) (by omega)
    omega
theorem join_len {c : UInt8} {k : Nat} : ∀ (ws : List (List UInt8)), (∀ w ∈ ws, w.length ≤ k) → (joinL c ws).length ≤ (k + 1) * ws.length
  | [], _ => Nat.le_refl _
  | [x], h => by have := h x (by simp); show x.length ≤ _; simp; omega
  | x :: y :: r, h => by
    have h1 := h x (by simp)
    have h2 := join_len (c := c) (y :: r) (fun w hw => h w (by simp at hw ⊢; exact .inr hw))
    show (x ++ c :: joinL c (y :: r)).length ≤ _
    simp only [List.length_append, List.length_cons] at h2 ⊢
    have e : (k + 1) * (r.length + 1 + 1) = (k + 1) * (r.length + 1) + (k + 1) := Nat.mul_succ _ _
    rw [e]
    omega
def listB (xs : List Int) : ByteArray := ⟨(listL xs).toArray⟩
theorem listB_size {xs : List Int} (h : ∀ x ∈ xs, okN x) : (listB xs).size ≤ 12 * xs.length := by
  unfold listB listL
  rw [bsz]
  have := join_len (c := 44) (k := 11) (xs.map Lib.itoa) (fun w hw => by
    obtain ⟨n, hn, rfl⟩ := List.mem_map.1 hw
    exact itoa_len (h n hn))
  rwa [List.length_map] at this
theorem listB_step {xs : List Int} {j : Nat} {x : Int} (hx : xs[j]? = some x) (h : 1 ≤ j) : listB (xs.take (j + 1)) = listB (xs.take j) ++ (⟨#[44]⟩ : ByteArray) ++ numB x := by
  have hj := (List.getElem?_eq_some_iff.1 hx).1
  unfold listB listL numB
  rw [List.take_add_one, hx, List.map_append, Option.toList_some, List.map_singleton, join_snoc' (by
    intro e
    have := congrArg List.length e
    rw [List.length_map, List.length_take, Nat.min_eq_left (by omega), List.length_nil] at this
    omega)]
  apply ByteArray.ext
  simp [ByteArray.data_append]
theorem listB_one {xs : List Int} {x : Int} (hx : xs[0]? = some x) : listB (xs.take 1) = (⟨#[]⟩ : ByteArray) ++ numB x := by
  unfold listB listL numB
  rw [show xs.take 1 = [x] by cases xs with | nil => simp at hx | cons y r => simp at hx; subst hx; rfl]
  apply ByteArray.ext
  simp [joinL, ByteArray.data_append]
set_option maxHeartbeats 8000000 in
set_option maxRecDepth 10000 in
theorem sListW_any {v : Value} {xs : List Int} (w : World) (h : RInts w v xs) (ho : ∀ x ∈ xs, okN x) (hn : xs.length ≤ 2097152) : Calls Tryd.prog 58 #[v] w fun e w' => e = .returned (.string (listB xs)) ∧ Grows w w' := by
  obtain ⟨A, c, rfl, -, -, hx⟩ := h.form
  have HX := hideIt hx
  have HO := hideIt ho
  clear hx ho h
  go_enter Tryd.func58, Tryd.ntmps58
  go_wp2
  go_loopw [3, 4] (fun a i wr => ∃ j : Nat, j ≤ xs.length ∧ i = .int .i64 (j : Int) ∧ a = .string (listB (xs.take j)) ∧ Hid (Grows w wr)) (fun _ i _ => xs.length - (intOf i).toNat)
  case atStart => exact ⟨0, Nat.zero_le _, rfl, rfl, hideIt (Grows.refl _)⟩
  case round =>
    obtain ⟨j, hj, rfl, rfl, GW⟩ := hrel
    by_cases hlt : j < xs.length
    · obtain ⟨x, hxj⟩ : ∃ x, xs[j]? = some x := ⟨_, List.getElem?_eq_getElem hlt⟩
      obtain ⟨b, off, rfl, cs, hl1, hcs, hr⟩ := HX.out j x hxj
      unfold RI at hr
      subst hr
      have kx : wr.cell? ⟨b, off + j, none⟩ = some (.int .i64 x) := GW.out.keeps _ _ (by simpa using hcs 0 _ rfl)
      have ox := HO.out x (List.mem_of_getElem? hxj)
      unfold okN at ox
      have zl := listB_size (xs := xs.take j) (fun y hy => HO.out y (List.mem_of_mem_take hy))
      have ztk : (xs.take j).length ≤ 2097152 := by rw [List.length_take]; omega
      have zx : (numB x).size ≤ 11 := by unfold numB; rw [bsz]; exact itoa_len (HO.out x (List.mem_of_getElem? hxj))
      have zl2 : (listB (xs.take j)).size ≤ 25165824 := by omega
      clear hcs hl1 zl ztk
      by_cases j0 : j = 0
      · have E : Hid (listB (xs.take (j + 1)) = listB (xs.take j) ++ numB x) := hideIt (by subst j0; rw [listB_one hxj]; rfl)
        have hnj : ¬ 0 < j := by omega
        clear hxj j0
        have zy : ¬ 9223372036854775807 < (listB (xs.take j)).size + (numB x).size := by omega
        go_wp2_with fail
        refine (numI_any x (by omega) (by omega) _).mono ?_
        rintro e u1 ⟨rfl, g⟩
        have G2 := hideIt (GW.out.trans g)
        clear g kx
        go_wp2
        go_roundw
        case rel => exact ⟨j + 1, by omega, by go_num, by rw [E.out], G2⟩
        case measure => first | (simp [intOf]; done) | (simp [intOf]; omega)
      · have jp : 0 < j := by omega
        have E := hideIt (listB_step hxj (by omega))
        clear hxj j0
        have zz : ¬ 9223372036854775807 < (listB (xs.take j)).size + 1 := by omega
        have zy : ¬ 9223372036854775807 < (listB (xs.take j)).size + 1 + (numB x).size := by omega
        go_wp2_with fail
        refine (numI_any x (by omega) (by omega) _).mono ?_
        rintro e u1 ⟨rfl, g⟩
        have G2 := hideIt (GW.out.trans g)
        clear g kx
        go_wp2
        go_roundw
        case rel => exact ⟨j + 1, by omega, by go_num, by rw [E.out], G2⟩
        case measure => first | (simp [intOf]; done) | (simp [intOf]; omega)
    · obtain rfl : j = xs.length := by omega
      rw [List.take_length]
      go_wp2
      go_ret
      exact ⟨rfl, GW.out⟩
theorem sList_any {v : Value} {xs : List Int} (w : World) (h : RInts w v xs) (ho : ∀ x ∈ xs, okN x) (hn : xs.length ≤ 16) : Calls Tryd.prog 58 #[v] w fun e w' => e = .returned (.string (listB xs)) ∧ Grows w w' := sListW_any w h ho (by omega)
end Go.Proofs.YtgglgghlndhfbaaDoor
