/-
  FormsRead's run comes to true, as the contract asks for it.
-/
import Derived.Test.YtoclmbbfdokbhaaGreatDoorHM4Pa
import Derived.Test.YtoclmbbfdokbhaaGreatDoorHM4Sd
namespace Go.Proofs.YtoclmbbfdokbhaaGreatDoor
open Go Go.Abs
theorem run_FormsRead (b : Bool) (l : List Int) (hb : b = true → l = []) (hl : l.length ≤ 4611686018427387904) (_ : ∀ n ∈ l, (Lit.int .i64 n).wf = true) : ∃ h, L 4 [.c (I (nums b l))] [] = some ([.c (I (.bool true))], h) :=
  pc_law (s4 (sv_nums hb) (law_FormsRead l hl)) fun _ h => h
end Go.Proofs.YtoclmbbfdokbhaaGreatDoor
