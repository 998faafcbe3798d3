/-
  KeysAreHeard: the law, whole.
-/
import Derived.Test.YtcbepglkfglclaaDoorHM7Pf
import Derived.Test.YtcbepglkfglclaaDoorHM7Pc
namespace Go.Proofs.YtcbepglkfglclaaDoor
open Go Go.Abs
theorem law_KeysAreHeard (l : List Int) (hl : l.length ≤ 4611686018427387904) : F7_flashkeep2_KeysAreHeard l = some true := law_of ok_is ok_zero l hl
end Go.Proofs.YtcbepglkfglclaaDoor
