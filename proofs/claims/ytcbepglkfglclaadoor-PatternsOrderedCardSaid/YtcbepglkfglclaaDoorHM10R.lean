/-
  PatternsOrdered's run comes to true, as the contract asks for it.
-/
import Derived.Test.YtcbepglkfglclaaDoorHM10Pd
import Derived.Test.YtcbepglkfglclaaDoorHM10Sg
namespace Go.Proofs.YtcbepglkfglclaaDoor
open Go Go.Abs
theorem run_PatternsOrdered (b : Bool) (l : List Int) (hb : b = true → l = []) (hl : l.length ≤ 4611686018427387904) (_ : ∀ n ∈ l, (Lit.int .i64 n).wf = true) : ∃ h, L 10 [.c (I (nums b l))] [] = some ([.c (I (.bool true))], h) :=
  pc_law (s10 (sv_nums hb) (law_PatternsOrdered l hl)) fun _ h => h
end Go.Proofs.YtcbepglkfglclaaDoor
