/-
  PresenceTells's run comes to true, as the contract asks for it.
-/
import Derived.Test.YtnpbglnfnhejiaaGreatDoorHM5Pa
import Derived.Test.YtnpbglnfnhejiaaGreatDoorHM5Sc
namespace Go.Proofs.YtnpbglnfnhejiaaGreatDoor
open Go Go.Abs
theorem run_PresenceTells {mx : Int} (b : Bool) (l : List Int) (hb : b = true → l = []) (hl : l.length ≤ 4611686018427387904) (_ : ∀ n ∈ l,(Lit.int .i64 n).wf = true) : ∃ h,L mx 5 [.c (I (nums b l))] [] = some ([.c (I (.bool true))],h) :=
  pc_law (s5 (sv_nums hb) (law_PresenceTells l hl)) fun _ h=>h
end Go.Proofs.YtnpbglnfnhejiaaGreatDoor
