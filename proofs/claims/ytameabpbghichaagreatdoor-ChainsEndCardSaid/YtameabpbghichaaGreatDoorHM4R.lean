/-
  ChainsEnd's run comes to true, as the contract asks for it.
-/
import Derived.Test.YtameabpbghichaaGreatDoorHM4Pb
import Derived.Test.YtameabpbghichaaGreatDoorHM4Dc
namespace Go.Proofs.YtameabpbghichaaGreatDoor
open Go Go.Abs
theorem run_ChainsEnd(b:Bool)(l:List Int)(hb:b=true→l=[])(hl:l.length≤4611686018427387904)(_:∀ n∈l,(Lit.int .i64 n).wf=true):∃ h,L X1 4 [.c (I (nums b l))] []=some ([.c (I (.bool true))],h) :=
  pc_law (s4 (X:=X1) (sv_nums hb) (law_ChainsEnd l hl)) fun _ h=>h
end Go.Proofs.YtameabpbghichaaGreatDoor
