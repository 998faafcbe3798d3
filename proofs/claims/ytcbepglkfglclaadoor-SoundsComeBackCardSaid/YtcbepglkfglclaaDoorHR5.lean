/-
  SoundsComeBack's run comes to true, as the contract asks for it.
-/
import Derived.Test.YtcbepglkfglclaaDoorHL5
namespace Go.Proofs.YtcbepglkfglclaaDoor
open Go Go.Abs
theorem run_SoundsComeBack (b : Bool) (l : List Int) (hb : b = true → l = []) (hl : l.length ≤ 4611686018427387904) (_ : ∀ n ∈ l, (Lit.int .i64 n).wf = true) : ∃ h, L 5 [.c (I (nums b l))] [] = some ([.c (I (.bool true))], h) := s5 b l hb hl
end Go.Proofs.YtcbepglkfglclaaDoor
