/-
  HiddenNeverDecide's run comes to true, as the contract asks for it.
-/
import Derived.Test.YtagbgmkocjfanaaGreatDoorHM7Pb
import Derived.Test.YtagbgmkocjfanaaGreatDoorHM7Se
namespace Go.Proofs.YtagbgmkocjfanaaGreatDoor
open Go Go.Abs
theorem run_HiddenNeverDecide (b : Bool) (l : List Int) (hb : b = true → l = []) (hl : l.length ≤ 4611686018427387904) (_ : ∀ n ∈ l,(Lit.int .i64 n).wf = true) : ∃ h,L 7 [.c (I (nums b l))] [] = some ([.c (I (.bool true))],h) :=
  pc_law (s7 (sv_nums hb) (law_HiddenNeverDecide l hl)) fun _ h=>h
end Go.Proofs.YtagbgmkocjfanaaGreatDoor
