/-
  The small code is what the program says: the check of each function, by the kernel; library functions without a body; the contract's parts.
-/
import Derived.Test.YtcbepglkfglclaaDoorHM4F
import Derived.Test.YtcbepglkfglclaaDoorCards
import Derived.Test.YtcbepglkfglclaaDoorTie
import Derived.WalkKit
import Derived.ProofKit
import Derived.OpenShut
import Derived.Deep.DeepHandedRow
import Derived.Lib.LaidTab
import Derived.Carry
import Derived.SizedLaws
namespace Go.Proofs.YtcbepglkfglclaaDoor
open Go Go.Abs Go.ChangeShapes Go.WideShapes Go.ChangeAt Go.RowKit
set_option maxRecDepth 100000

def okAll (P : Program) (F : Nat → Option Abs.Fn) (n : Nat) : Bool := (List.range n).all fun f => match F f with
  | some fn => okFn P f fn
  | none => true
theorem fns_ok : okAll Tryd.prog fns 239 = true := by kernel_rfl
theorem fns_top : ∀ f fn, fns f = some fn → f < 239 := by
  intro f fn h
  unfold fns at h
  split at h <;> first | omega | simp at h
theorem hF : ∀ f fn, fns f = some fn → okFn Tryd.prog f fn = true := by
  intro f fn h
  have h1 := fns_ok
  unfold okAll at h1
  have := List.all_eq_true.1 h1 f (by simpa using fns_top f fn h)
  rw [h] at this
  exact this
theorem cells3 : Tryd.prog.cellsOf 3 = 1 := by kernel_rfl
theorem bytes3 : Tryd.prog.bytesOf 3 = 8 := by kernel_rfl
theorem laidOut : laidOutB Tryd.prog = true := by kernel_rfl
theorem ownK : ownKnob Tryd.prog.godebug = none := by kernel_rfl
theorem kx_ok : ∀ f x, kx f = some x → XOk Tryd.prog f x := by
  intro f x h
  unfold kx at h
  split at h
  · obtain rfl := Option.some.inj h
    exact ⟨_, Tryd.func169, by kernel_rfl, by kernel_rfl, by kernel_rfl, by kernel_rfl⟩
  · obtain rfl := Option.some.inj h
    exact ⟨_, Tryd.func166, by kernel_rfl, by kernel_rfl, by kernel_rfl, by kernel_rfl⟩
  · simp at h
theorem gTab : Tryd.prog.globalNamed "math/bits.deBruijn32tab" = some 0 := by kernel_rfl
theorem gTabType : (Tryd.prog.globals[0]?).map (·.type) = some 227 := by kernel_rfl
theorem cellsTab : Tryd.prog.cellsOf 227 = 32 := by kernel_rfl
theorem cellsE : Tryd.prog.cellsOf 5 = 1 := by kernel_rfl
theorem laidTab : (Rows.laid_math_bits_deBruijn32tab : DataW Unit) = Lib.tabData .u8 tab32 := by kernel_rfl
/-- What a row's list gives: the table's cells hold its numbers. -/
theorem tabCells (laid : List (String × DataW Unit)) {rest : List (String × DataW Unit)} (hl : laid = ("math/bits.deBruijn32tab", Rows.laid_math_bits_deBruijn32tab) :: rest) {W : World} (h : laidMet Tryd.prog laid W) :
    ∀ i, i < tab32.length → W.cell? ⟨0, i, none⟩ = some (.int .u8 (tab32.getD i 0)) := by
  subst hl
  rw [laidTab] at h
  have ht : Lib.TabIs Tryd.prog W "math/bits.deBruijn32tab" .u8 tab32 := Lib.tabIs_of_head (rest := rest) gTab gTabType Tryd.underlying227 Tryd.underlying5 cellsE cellsTab h
  exact fun i hi => ht.cell gTab i hi
/-- A world for the witness: the settled one, the tables holding what their initialisers lay. -/
def rowOf (l : List (Nat × Nat)) : Array Value := (l.flatMap fun (a, b) => [Value.int .u8 a, Value.int .u8 b]).toArray
noncomputable def laid0 : Obj → Obj
  | .cells _ t frozen => .cells ((tab32.map (Value.int .u8)).toArray) t frozen
  | o => o
noncomputable def laid2 : Obj → Obj
  | .cells _ t frozen => .cells ((Go.Pinned.utf8FirstZ.map fun (n : Nat) => Value.int .u8 n).toArray) t frozen
  | o => o
noncomputable def laid3 : Obj → Obj
  | .cells _ t frozen => .cells (rowOf [(128, 191), (160, 191), (128, 159), (144, 191), (128, 143), (0, 0), (0, 0), (0, 0), (0, 0), (0, 0), (0, 0), (0, 0), (0, 0), (0, 0), (0, 0), (0, 0)]) t frozen
  | o => o
noncomputable def laidWorld (os : Os) : World :=
  { World.holding Tryd.prog os ⟨#[], #[], []⟩ with heap := (((World.holding Tryd.prog os ⟨#[], #[], []⟩).heap.modify 0 laid0).modify 2 laid2).modify 3 laid3 }
end Go.Proofs.YtcbepglkfglclaaDoor
