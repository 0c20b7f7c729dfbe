/-
  Copy, budget and equality of slices of structs.
-/
import Derived.Test.YtciflcnfimpfgaaListB
import Derived.Test.YtciflcnfimpfgaaSpan
namespace Go.Proofs.Ytciflcnfimpfgaa
open Go.RowKit

abbrev SpanD := Int × Int
def RSpan (_ : World) (cs : List Value) (x : SpanD) : Prop := cs = [.int .i64 x.1, .int .i64 x.2]
def RSpans : World → Value → List SpanD → Prop := RList 2 RSpan
theorem RSpan.keep {w w' : World} {cs : List Value} {x : SpanD} (h : RSpan w cs x) (_ : Keeps w w') : RSpan w' cs x := h
theorem RSpans.keep {w w' : World} {v : Value} {xs : List SpanD} (h : RSpans w v xs) (k : Keeps w w') : RSpans w' v xs := RList.keep h k fun _ _ h => h
def OSpan (_ : World) (cs : List Value) (x : SpanD) (b : List Nat) : Prop := cs = [.int .i64 x.1, .int .i64 x.2] ∧ b = []
theorem OSpan.reads {w : World} {cs : List Value} {x : SpanD} {b : List Nat} (h : OSpan w cs x b) : RSpan w cs x := h.1
theorem OSpan.same {w w' : World} {cs : List Value} {x : SpanD} {b : List Nat} (h : OSpan w cs x b) (_ : SameOn b w w') : OSpan w' cs x b := h
theorem OSpan.lt {w : World} {cs : List Value} {x : SpanD} {b : List Nat} (h : OSpan w cs x b) : ∀ g ∈ b, g < w.heap.size := by rw [h.2]; intro g hg; cases hg
theorem OSpan.shape {w : World} {a b : Value} {x : SpanD} {bs : List Nat} (h : OSpan w [a, b] x bs) : a = .int .i64 x.1 ∧ b = .int .i64 x.2 := by
  have h1 := h.1
  injection h1 with e1 h1
  injection h1 with e2 h1
  exact ⟨e1, e2⟩
def SmSpan (_ : SpanD) : Prop := True

end Go.Proofs.Ytciflcnfimpfgaa
