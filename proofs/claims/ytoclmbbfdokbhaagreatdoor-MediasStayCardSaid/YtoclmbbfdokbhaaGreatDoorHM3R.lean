/-
  MediasStay's run comes to true, as the contract asks for it.
-/
import Derived.Test.YtoclmbbfdokbhaaGreatDoorHM3Pa
import Derived.Test.YtoclmbbfdokbhaaGreatDoorHM3Sc
namespace Go.Proofs.YtoclmbbfdokbhaaGreatDoor
open Go Go.Abs
theorem run_MediasStay (b : Bool) (l : List Int) (hb : b = true → l = []) (hl : l.length ≤ 4611686018427387904) (_ : ∀ n ∈ l, (Lit.int .i64 n).wf = true) : ∃ h, L 3 [.c (I (nums b l))] [] = some ([.c (I (.bool true))], h) :=
  pc_law (s3 (sv_nums hb) (law_MediasStay l hl)) fun _ h => h
end Go.Proofs.YtoclmbbfdokbhaaGreatDoor
