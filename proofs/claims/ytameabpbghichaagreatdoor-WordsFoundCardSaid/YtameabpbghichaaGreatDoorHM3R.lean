/-
  WordsFound's run comes to true, as the contract asks for it.
-/
import Derived.Test.YtameabpbghichaaGreatDoorHM3Pa
import Derived.Test.YtameabpbghichaaGreatDoorHM3Dc
namespace Go.Proofs.YtameabpbghichaaGreatDoor
open Go Go.Abs
theorem run_WordsFound (b : Bool) (l : List Int) (hb : b = true → l = []) (hl : l.length ≤ 4611686018427387904) (_ : ∀ n ∈ l,(Lit.int .i64 n).wf = true) : ∃ h,L X1 3 [.c (I (nums b l))] [] = some ([.c (I (.bool true))],h) :=
  pc_law (s3 (X:=X1) (sv_nums hb) (law_WordsFound l hl)) fun _ h=>h
end Go.Proofs.YtameabpbghichaaGreatDoor
