/-
  Plain facts on numbers: bounds, and the quotient rounded by a mode.
-/
namespace Go.Proofs.YtgglgghlndhfbaaDoor

/-- low ≤ n ≤ high, kept shut. -/
def inB (n lo hi : Int) : Bool := decide (lo ≤ n ∧ n ≤ hi)
theorem inB_true {n lo hi : Int} (h : inB n lo hi = true) : lo ≤ n ∧ n ≤ hi := by simpa [inB] using h
theorem inB_false {n lo hi : Int} (h : inB n lo hi = false) : n < lo ∨ hi < n := by
  have : ¬ (lo ≤ n ∧ n ≤ hi) := by simpa [inB] using h
  omega
theorem inB_mk {n lo hi : Int} (h : lo ≤ n) (h2 : n ≤ hi) : inB n lo hi = true := by simp [inB, h, h2]

def isM (m : Int) : Bool := decide (m = 0 ∨ m = 1)
theorem isM_true {m : Int} (h : isM m = true) : m = 0 ∨ m = 1 := by simpa [isM] using h
theorem isM_false {m : Int} (h : isM m = false) : m ≠ 0 ∧ m ≠ 1 := by
  have : ¬ (m = 0 ∨ m = 1) := by simpa [isM] using h
  omega

/-- the quotient as both texts reckon it: toward zero, then moved by the mode -/
def rdv (a b m : Int) : Int :=
  if a.tmod b < 0 ∧ m = 0 then a.tdiv b - 1 else if 0 < a.tmod b ∧ m = 1 then a.tdiv b + 1 else a.tdiv b

theorem tdiv_bd {a b : Int} (hb : 1 ≤ b) : (0 ≤ a → 0 ≤ a.tdiv b ∧ a.tdiv b ≤ a) ∧ (a ≤ 0 → a ≤ a.tdiv b ∧ a.tdiv b ≤ 0) := by
  have h1 : ∀ x : Int, 0 ≤ x → 0 ≤ x.tdiv b ∧ x.tdiv b ≤ x := fun x hx => by
    have e : x.tdiv b = x / b := Int.tdiv_eq_ediv_of_nonneg hx
    rw [e]
    exact ⟨Int.ediv_nonneg hx (by omega), Int.ediv_le_self b hx⟩
  refine ⟨h1 a, fun ha => ?_⟩
  have h2 := h1 (-a) (by omega)
  rw [Int.neg_tdiv] at h2
  omega
theorem tmod_bd {a b : Int} (hb : 1 ≤ b) : (0 ≤ a → 0 ≤ a.tmod b ∧ a.tmod b < b) ∧ (a ≤ 0 → -b < a.tmod b ∧ a.tmod b ≤ 0) := by
  have h1 : ∀ x : Int, 0 ≤ x → 0 ≤ x.tmod b ∧ x.tmod b < b := fun x hx =>
    ⟨Int.tmod_nonneg b hx, Int.tmod_lt_of_pos x (by omega)⟩
  refine ⟨h1 a, fun ha => ?_⟩
  have h2 := h1 (-a) (by omega)
  rw [Int.neg_tmod] at h2
  omega
theorem tdiv_add (a b : Int) : b * a.tdiv b + a.tmod b = a := Int.mul_tdiv_add_tmod a b

theorem rdv_bd {a b m : Int} (hb : 1 ≤ b) : (0 ≤ a → 0 ≤ rdv a b m ∧ rdv a b m ≤ a + 1) ∧ (a ≤ 0 → a - 1 ≤ rdv a b m ∧ rdv a b m ≤ 0) := by
  have h1 := @tdiv_bd a b hb
  have h2 := @tmod_bd a b hb
  unfold rdv
  constructor <;> intro h <;> split
  · have := h2.1 h; have := h1.1 h; omega
  · split <;> (have := h1.1 h; omega)
  · have := h1.2 h; omega
  · split
    · have := h2.2 h; omega
    · have := h1.2 h; omega
end Go.Proofs.YtgglgghlndhfbaaDoor
