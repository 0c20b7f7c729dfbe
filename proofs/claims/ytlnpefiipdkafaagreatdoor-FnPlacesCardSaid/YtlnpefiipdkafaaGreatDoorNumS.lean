/-
  A number's text, the reference's.
-/
import Derived.Test.YtlnpefiipdkafaaGreatDoorTimeM
import Derived.Test.YtlnpefiipdkafaaGreatDoorGA
import Derived.Test.YtlnpefiipdkafaaGreatDoorReg3
import Derived.Laws.IdiomStrings
namespace Go.Proofs.YtlnpefiipdkafaaGreatDoor
open Go.RowKit
theorem bsz (l : List UInt8) : (⟨l.toArray⟩ : ByteArray).size = l.length := by simp [ByteArray.size]
theorem dec_len : ∀ (k n : Nat), 1 ≤ k → n < 10 ^ k → (Lib.decDigits n).length ≤ k
  | 0, _, h, _ => absurd h (by omega)
  | k + 1, n, _, hn => by
    by_cases h : n < 10
    · rw [Lib.decDigits_one h]; simp
    · rw [dec_big h, List.length_append, List.length_singleton]
      rcases Nat.eq_zero_or_pos k with h0 | h0
      · subst h0; omega
      · have := dec_len k (n / 10) h0 (by rw [Nat.pow_succ] at hn; omega)
        omega
def decB (n : Nat) : ByteArray := ⟨(Lib.decDigits n).toArray⟩
theorem decB_size {n : Nat} (h : n < 10000000000000000) : (decB n).size ≤ 16 ∧ 1 ≤ (decB n).size := by
  unfold decB
  rw [bsz]
  refine ⟨dec_len 16 n (by omega) (by omega), ?_⟩
  have := dec_ne n
  cases h : Lib.decDigits n with
  | nil => exact absurd h this
  | cons c l => simp
theorem decB_big {n : Nat} (h : ¬ n < 10) : decB (n / 10) ++ (⟨#[48 + UInt8.ofNat (n % 10)]⟩ : ByteArray) = decB n := by
  unfold decB
  rw [dec_big h]
  apply ByteArray.ext
  simp [ByteArray.data_append]
theorem decB_one {n : Nat} (h : n < 10) : (⟨#[48 + UInt8.ofNat n]⟩ : ByteArray) = decB n := by
  unfold decB
  rw [Lib.decDigits_one h]
  simp
theorem cv_one (d : Nat) (h : d < 10) : ∀ (W : World) (g : Nat), W.cell? ⟨g, 0, none⟩ = some (.int .u8 (48 + (d : Int))) → Sem.run Tryz.prog (convert 22 9 (.slice (some ⟨g, 0, none⟩) 1 1)) W = .ok (.string ⟨#[UInt8.ofNat (48 + d)]⟩) W := fun W g hc =>
  run_convert_bytes_back W 22 9 5 ⟨g, 0, none⟩ 1 [UInt8.ofNat (48 + d)] Tryz.underlying22 Tryz.underlying5 Tryz.underlying9 (fun j hj => by
    obtain rfl : j = 0 := by simp at hj; omega
    simp only [List.getElem_cons_zero, Addr.add, Nat.zero_add]
    rw [ofNat_dig h]
    simpa using hc)
set_option maxHeartbeats 4000000 in
set_option maxRecDepth 10000 in
theorem num_any (n : Nat) : n < 10000000000000000 → ∀ w : World, Calls Tryz.prog 104 #[.int .i64 (n : Int)] w fun e w' => e = .returned (.string (decB n)) ∧ Grows w w' := by
  induction n using Nat.strongRecOn with
  | _ n ih =>
    intro hn w
    have e1 : ¬ ((n : Int) < 0) := by omega
    by_cases h : n < 10
    · have hcv := cv_one n h (w.alloc (.cells #[.int .u8 (48 + (n : Int))] 5)) w.heap.size (by simp)
      go_enter Tryz.func104, Tryz.ntmps104
      go_wp2
      go_ret
      exact ⟨by rw [← decB_one h]; rfl, (Grows.refl w).alloc _⟩
    · have q1 : (n : Int).tdiv 10 = ((n / 10 : Nat) : Int) := by rw [Int.tdiv_eq_ediv_of_nonneg (by omega)]; omega
      have q2 : (n : Int).tmod 10 = ((n % 10 : Nat) : Int) := by rw [Int.tmod_eq_emod_of_nonneg (by omega)]; omega
      have gg : Grows w w := Grows.refl w
      go_enter Tryz.func104, Tryz.ntmps104
      go_wp2
      refine wp_region_held_drew (S := (fun _ => True)) (by kernel_rfl) ?_ (fun hh0 => ?_)
      · (try dsimp only); try trivial
      refine regTk 0 hh0 ?_
      refine regTake 1 (v := .int .i64 ((n / 10 : Nat) : Int)) (fun w hw => ?_) hh0 ?_
      · (try dsimp only at hw)
        go_simp
        (try (first | rw [Go.IntWalk.i64_in _ (by omega)] | rw [Go.IntWalk.u8_in _ (by omega)]))
      try simp only [Act.put, List.setIfInBounds_toArray, List.set_cons_zero, List.set_cons_succ]
      refine regTk 3 hh0 ?_
      refine regTake 4 (v := .int .i64 ((n % 10 : Nat) : Int)) (fun w hw => ?_) hh0 ?_
      · (try dsimp only at hw)
        go_simp
        (try (first | rw [Go.IntWalk.i64_in _ (by omega)] | rw [Go.IntWalk.u8_in _ (by omega)]))
      try simp only [Act.put, List.setIfInBounds_toArray, List.set_cons_zero, List.set_cons_succ]
      refine regTake 5 (v := .int .i64 (48 + ((n % 10 : Nat) : Int))) (fun w hw => ?_) hh0 ?_
      · (try dsimp only at hw)
        go_simp
        (try (first | rw [Go.IntWalk.i64_in _ (by omega)] | rw [Go.IntWalk.u8_in _ (by omega)]))
      try simp only [Act.put, List.setIfInBounds_toArray, List.set_cons_zero, List.set_cons_succ]
      refine regTake 6 (v := .int .u8 (48 + ((n % 10 : Nat) : Int))) (fun w hw => ?_) hh0 ?_
      · (try dsimp only at hw)
        go_simp
        (try (first | rw [Go.IntWalk.i64_in _ (by omega)] | rw [Go.IntWalk.u8_in _ (by omega)]))
      try simp only [Act.put, List.setIfInBounds_toArray, List.set_cons_zero, List.set_cons_succ]
      refine regCall2 2 7 (fun K hK => ?_) (fun K hK => ?_)
      · go_simp
        refine (ih (n / 10) (by omega) (by omega) _).mono ?_
        rintro e u1 ⟨rfl, g_⟩
        have gg : Grows w u1 := (show Grows w _ from (by repeat (first | exact Grows.refl _ | exact gg | refine Grows.drew ?_ | refine Grows.drewN ?_ _ | refine Grows.alloc ?_ _))).trans g_
        have sz := decB_size (show n / 10 < 10000000000000000 by omega)
        have szn : ¬ 9223372036854775807 < (decB (n / 10)).size + 1 := by omega
        clear g_
        (try go_wp2_with fail)
        refine hK.out _ _ ?_ (fun hh1 => ?_)
        · (try dsimp only); try trivial
        clear hK K hh0
        try simp only [Act.put, List.setIfInBounds_toArray, List.set_cons_zero, List.set_cons_succ]
        refine regCall 7 (fun K hK => ?_)
        go_simp
        (try go_wp2_with fail)
        refine hK.out _ _ ?_ (fun hh2 => ?_)
        · (try dsimp only); try trivial
        clear hK K hh1
        try simp only [Act.put, List.setIfInBounds_toArray, List.set_cons_zero, List.set_cons_succ]
        refine regCall 8 (fun K hK => ?_)
        go_simp
        rw [cv_one (n % 10) (by omega) _ _ (by simp)]
        go_simp
        (try go_wp2_with fail)
        refine hK.out _ _ ?_ (fun hh3 => ?_)
        · (try dsimp only); try trivial
        clear hK K hh2
        try simp only [Act.put, List.setIfInBounds_toArray, List.set_cons_zero, List.set_cons_succ]
        refine regTk 9 hh3 ?_
        refine regTk 10 hh3 ?_
        refine wpAnyH_done (by kernel_rfl) ?_ _
        clear hh3
        go_wp2
        go_ret
        exact ⟨by rw [← decB_big h]; rfl, (by repeat (first | exact Grows.refl _ | exact gg | refine Grows.drew ?_ | refine Grows.drewN ?_ _ | refine Grows.alloc ?_ _))⟩
      · go_simp
        (try go_wp2_with fail)
        refine hK.out _ _ ?_ (fun hh1 => ?_)
        · (try dsimp only); try trivial
        clear hK K hh0
        try simp only [Act.put, List.setIfInBounds_toArray, List.set_cons_zero, List.set_cons_succ]
        refine regCall2 2 8 (fun K hK => ?_) (fun K hK => ?_)
        · go_simp
          refine (ih (n / 10) (by omega) (by omega) _).mono ?_
          rintro e u1 ⟨rfl, g_⟩
          have gg : Grows w u1 := (show Grows w _ from (by repeat (first | exact Grows.refl _ | exact gg | refine Grows.drew ?_ | refine Grows.drewN ?_ _ | refine Grows.alloc ?_ _))).trans g_
          have sz := decB_size (show n / 10 < 10000000000000000 by omega)
          have szn : ¬ 9223372036854775807 < (decB (n / 10)).size + 1 := by omega
          have kc : u1.cell? ⟨w.heap.size, 0, none⟩ = some (.int .u8 (48 + ((n % 10 : Nat) : Int))) := (g_.cells.1 _ _ (by simp)).trans (by simp)
          clear g_
          (try go_wp2_with fail)
          refine hK.out _ _ ?_ (fun hh2 => ?_)
          · (try dsimp only); try trivial
          clear hK K hh1
          try simp only [Act.put, List.setIfInBounds_toArray, List.set_cons_zero, List.set_cons_succ]
          refine regCall 8 (fun K hK => ?_)
          go_simp
          rw [cv_one (n % 10) (by omega) _ _ kc]
          go_simp
          (try go_wp2_with fail)
          refine hK.out _ _ ?_ (fun hh3 => ?_)
          · (try dsimp only); try trivial
          clear hK K hh2
          try simp only [Act.put, List.setIfInBounds_toArray, List.set_cons_zero, List.set_cons_succ]
          refine regTk 9 hh3 ?_
          refine regTk 10 hh3 ?_
          refine wpAnyH_done (by kernel_rfl) ?_ _
          clear hh3
          go_wp2
          go_ret
          exact ⟨by rw [← decB_big h]; rfl, (by repeat (first | exact Grows.refl _ | exact gg | refine Grows.drew ?_ | refine Grows.drewN ?_ _ | refine Grows.alloc ?_ _))⟩
        · go_simp
          rw [cv_one (n % 10) (by omega) _ _ (by simp)]
          go_simp
          (try go_wp2_with fail)
          refine hK.out _ _ ?_ (fun hh2 => ?_)
          · (try dsimp only); try trivial
          clear hK K hh1
          try simp only [Act.put, List.setIfInBounds_toArray, List.set_cons_zero, List.set_cons_succ]
          refine regCall 2 (fun K hK => ?_)
          go_simp
          refine (ih (n / 10) (by omega) (by omega) _).mono ?_
          rintro e u1 ⟨rfl, g_⟩
          have gg : Grows w u1 := (show Grows w _ from (by repeat (first | exact Grows.refl _ | exact gg | refine Grows.drew ?_ | refine Grows.drewN ?_ _ | refine Grows.alloc ?_ _))).trans g_
          have sz := decB_size (show n / 10 < 10000000000000000 by omega)
          have szn : ¬ 9223372036854775807 < (decB (n / 10)).size + 1 := by omega
          have kc : u1.cell? ⟨w.heap.size, 0, none⟩ = some (.int .u8 (48 + ((n % 10 : Nat) : Int))) := (g_.cells.1 _ _ (by simp)).trans (by simp)
          clear g_
          (try go_wp2_with fail)
          refine hK.out _ _ ?_ (fun hh3 => ?_)
          · (try dsimp only); try trivial
          clear hK K hh2
          try simp only [Act.put, List.setIfInBounds_toArray, List.set_cons_zero, List.set_cons_succ]
          refine regTk 9 hh3 ?_
          refine regTk 10 hh3 ?_
          refine wpAnyH_done (by kernel_rfl) ?_ _
          clear hh3
          go_wp2
          go_ret
          exact ⟨by rw [← decB_big h]; rfl, (by repeat (first | exact Grows.refl _ | exact gg | refine Grows.drew ?_ | refine Grows.drewN ?_ _ | refine Grows.alloc ?_ _))⟩
end Go.Proofs.YtlnpefiipdkafaaGreatDoor
