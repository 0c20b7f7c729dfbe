/-
  A table and a code handed back, the table in memory of its own.
-/
import Derived.Test.YtgglgghlndhfbaaDoorOwn
namespace Go.Proofs.YtgglgghlndhfbaaDoor
open Go.RowKit

/-- a table and a code are handed back, the table in memory of its own -/
def RetTable (t : TableD) (code : Int) (w : World) (e : Ending) (w' : World) : Prop :=
  ∃ (A1 : Option Addr) (n1 : Nat) (A2 : Option Addr) (n2 : Nat) (A3 : Option Addr) (n3 : Nat) (bs : List Nat),
    e = .returned (.tuple #[.agg #[.slice A1 t.slews.length n1, .slice A2 t.loads.length n2, .slice A3 t.values.length n3], .int .i64 code]) ∧
    OTable w' [.slice A1 t.slews.length n1, .slice A2 t.loads.length n2, .slice A3 t.values.length n3] t bs ∧ Own w.heap.size w'.heap.size bs ∧ Grows w w'
theorem OInts.nil {w : World} : OInts w (.slice none 0 0) [] [] := .inl ⟨rfl, rfl, rfl⟩
end Go.Proofs.YtgglgghlndhfbaaDoor
