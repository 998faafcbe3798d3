/-
  SlipsMade's run comes to true, as the contract asks for it.
-/
import Derived.Test.YtoclmbbfdokbhaaGreatDoorHM7Pa
import Derived.Test.YtoclmbbfdokbhaaGreatDoorHM7Sd
namespace Go.Proofs.YtoclmbbfdokbhaaGreatDoor
open Go Go.Abs
theorem run_SlipsMade (b : Bool) (l : List Int) (hb : b = true → l = []) (hl : l.length ≤ 4611686018427387904) (_ : ∀ n ∈ l,(Lit.int .i64 n).wf = true) : ∃ h,L 7 [.c (I (nums b l))] [] = some ([.c (I (.bool true))],h) :=
  pc_law (s7 (sv_nums hb) (law_SlipsMade l hl)) fun _ h=>h
end Go.Proofs.YtoclmbbfdokbhaaGreatDoor
