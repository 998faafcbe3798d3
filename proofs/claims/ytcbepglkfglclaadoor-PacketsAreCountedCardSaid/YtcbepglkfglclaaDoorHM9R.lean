/-
  PacketsAreCounted's run comes to true, as the contract asks for it.
-/
import Derived.Test.YtcbepglkfglclaaDoorHM9Pc
import Derived.Test.YtcbepglkfglclaaDoorHM9Se
namespace Go.Proofs.YtcbepglkfglclaaDoor
open Go Go.Abs
theorem run_PacketsAreCounted (b : Bool) (l : List Int) (hb : b = true → l = []) (hl : l.length ≤ 4611686018427387904) (_ : ∀ n ∈ l, (Lit.int .i64 n).wf = true) : ∃ h, L 9 [.c (I (nums b l))] [] = some ([.c (I (.bool true))], h) :=
  pc_law (s9 (sv_nums hb) (law_PacketsAreCounted l hl)) fun _ h => h
end Go.Proofs.YtcbepglkfglclaaDoor
