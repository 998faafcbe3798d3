/-
  'ready' comes to true: by running it.
-/
import Derived.Test.YtcbepglkfglclaaDoorHVSa
namespace Go.Proofs.YtcbepglkfglclaaDoor
open Go Go.Abs
set_option maxRecDepth 100000

def isTrue1 : Option (List A1 × Heap) → Bool
  | some ([.c (.r (.i (.bool true)))], _) => true
  | _ => false
theorem ready_run : isTrue1 (run tabs fns (xRun kx) 40 20 18 [] []) = true := by kernel_rfl
theorem s18 (lent : Bool) : pureCall L 18 [] lent = some [.c (I (.bool true))] := by
  have := ready_run
  refine pure_of_run (n := 40) (d := 20) ?_ (by simp)
  unfold isTrue1 at this
  split at this
  · exact ⟨_, by assumption⟩
  · simp at this

end Go.Proofs.YtcbepglkfglclaaDoor
