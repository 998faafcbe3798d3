/-
  The small code is what the program says: the check of each function, by the kernel; library functions without a body; the contract's parts.
-/
import Derived.Test.YtnpbglnfnhejiaaGreatDoorHM5F
import Derived.Test.YtnpbglnfnhejiaaGreatDoorHM5Rep
import Derived.Test.YtnpbglnfnhejiaaGreatDoorHM5Row
import Derived.Test.YtnpbglnfnhejiaaGreatDoorHM5Trim
import Derived.Test.YtnpbglnfnhejiaaGreatDoorCards
import Derived.Test.YtnpbglnfnhejiaaGreatDoorTie
import Derived.WalkKit
import Derived.ProofKit
import Derived.OpenShut
import Derived.Deep.DeepHandedRow
import Derived.Lib.LaidTab
import Derived.Carry
import Derived.SizedLaws
namespace Go.Proofs.YtnpbglnfnhejiaaGreatDoor
open Go Go.Abs Go.ChangeShapes Go.WideShapes Go.ChangeAt Go.RowKit
set_option maxRecDepth 100000
def okAll (P : Program) (F : Nat → Option Abs.Fn) (n : Nat) : Bool:=(List.range n).all fun f=>match F f with
  | some fn=>okFn P f fn
  | none=>true
theorem fns_ok : okAll Tryz.prog fns 282 = true:=by kernel_rfl
theorem fns_top : ∀ f fn,fns f = some fn → f < 282:=by
  intro f fn h
  unfold fns at h
  split at h <;> first | omega | simp at h
theorem hF : ∀ f fn,fns f = some fn → okFn Tryz.prog f fn = true:=by
  intro f fn h
  have h1:=fns_ok
  unfold okAll at h1
  have:=List.all_eq_true.1 h1 f (by simpa using fns_top f fn h)
  rw [h] at this
  exact this
theorem cells3 : Tryz.prog.cellsOf 3 = 1:=by kernel_rfl
theorem bytes3 : Tryz.prog.bytesOf 3 = 8:=by kernel_rfl
theorem laidOut : laidOutB Tryz.prog = true:=by kernel_rfl
theorem ownK : ownKnob Tryz.prog.godebug = none:=by kernel_rfl
theorem kx_ok : ∀ f x,kx f = some x → XOk Tryz.prog f x:=by
  intro f x h
  unfold kx at h
  split at h
  · obtain rfl:=Option.some.inj h
    exact ⟨_,Tryz.func188,by kernel_rfl,by kernel_rfl,by kernel_rfl,by kernel_rfl⟩
  · obtain rfl:=Option.some.inj h
    exact ⟨_,Tryz.func144,by kernel_rfl,by kernel_rfl,by kernel_rfl,by kernel_rfl⟩
  · obtain rfl:=Option.some.inj h
    exact trim_ok
  · obtain rfl:=Option.some.inj h
    exact rep_ok
  · obtain rfl:=Option.some.inj h
    exact srtI_ok
  · obtain rfl:=Option.some.inj h
    exact cpI_ok
  · obtain rfl:=Option.some.inj h
    exact cont_ok
  · obtain rfl:=Option.some.inj h
    exact vstr_ok
  · simp at h
theorem gTab : Tryz.prog.globalNamed "math/bits.deBruijn32tab" = some 3:=by kernel_rfl
theorem gTabType : (Tryz.prog.globals[3]?).map (·.type) = some 256:=by kernel_rfl
theorem cellsTab : Tryz.prog.cellsOf 256 = 32:=by kernel_rfl
theorem cellsE : Tryz.prog.cellsOf 5 = 1:=by kernel_rfl
theorem laidTab : (Rows.laid_math_bits_deBruijn32tab : DataW Unit) = Lib.tabData .u8 tab32:=by kernel_rfl
/-- What a row's list gives: the table's cells hold its numbers. -/
theorem tabCells (laid : List (String × DataW Unit)) {rest : List (String × DataW Unit)} (hl : laid = ("math/bits.deBruijn32tab",Rows.laid_math_bits_deBruijn32tab) :: rest) {W : World} (h : laidMet Tryz.prog laid W) :
    ∀ i,i < tab32.length → W.cell? ⟨3,i,none⟩ = some (.int .u8 (tab32.getD i 0)):=by
  subst hl
  rw [laidTab] at h
  have ht : Lib.TabIs Tryz.prog W "math/bits.deBruijn32tab" .u8 tab32:=Lib.tabIs_of_head (rest:=rest) gTab gTabType Tryz.underlying256 Tryz.underlying5 cellsE cellsTab h
  exact fun i hi=>ht.cell gTab i hi
/-- A world for the witness: the settled one,the variables holding what their initialisers lay. -/
noncomputable def laidP0 : Obj → Obj
  | .cells _ t frozen=>.cells ((tab32.map (Value.int .u8)).toArray) t frozen
  | o=>o
noncomputable def laidP1 : Obj → Obj
  | .cells _ t frozen=>.cells (#[Value.int .u8 128,Value.int .u8 191,Value.int .u8 160,Value.int .u8 191,Value.int .u8 128,Value.int .u8 159,Value.int .u8 144,Value.int .u8 191,Value.int .u8 128,Value.int .u8 143,Value.int .u8 0,Value.int .u8 0,Value.int .u8 0,Value.int .u8 0,Value.int .u8 0,Value.int .u8 0,Value.int .u8 0,Value.int .u8 0,Value.int .u8 0,Value.int .u8 0,Value.int .u8 0,Value.int .u8 0,Value.int .u8 0,Value.int .u8 0,Value.int .u8 0,Value.int .u8 0,Value.int .u8 0,Value.int .u8 0,Value.int .u8 0,Value.int .u8 0,Value.int .u8 0,Value.int .u8 0]) t frozen
  | o=>o
noncomputable def laidP2 : Obj → Obj
  | .cells _ t frozen=>.cells ((Go.Pinned.utf8FirstZ.map fun (n : Nat)=>Value.int .u8 n).toArray) t frozen
  | o=>o
noncomputable def laidBase (os : Os) : World:=World.holding Tryz.prog os ⟨#[],#[],[]⟩
noncomputable def laidWorld (os : Os) : World:={ laidBase os with heap:=((((laidBase os).heap).modify 3 laidP0).modify 2 laidP1).modify 1 laidP2 }
theorem kx_tab (mx : Int) : ∀ f x,kx f = some x → XTab (tabs mx) x:=by
  intro f x h
  unfold kx at h
  split at h <;> first
    | (obtain rfl:=Option.some.inj h; first | exact trivial | exact ⟨mx,rfl⟩ | exact ⟨rfl,rfl⟩)
    | simp at h
theorem tabs_ok {W : World} (mx : Int) (hm : W.cell? ⟨0,0,none⟩ = some (.int .i64 mx)) (h1 : ∀ i,i < tab32.length → W.cell? ⟨3,i,none⟩ = some (.int .u8 (tab32.getD i 0))) (h3 : ∀ i,i < utf1.length → W.cell? ⟨1,i,none⟩ = some (.int .u8 (utf1.getD i 0))) (h4 : ∀ i,i < utf2.length → W.cell? ⟨2,i,none⟩ = some (.int .u8 (utf2.getD i 0))) : GOk (topX W) (tabs mx):=by
  have e : tabs mx = tabsG [(0,.i64,[mx]),(3,.u8,tab32),(1,.u8,utf1),(2,.u8,utf2)]:=by funext g; rfl
  rw [e]
  refine tabs_gok ?_
  intro t ht
  simp only [List.mem_cons,List.not_mem_nil,or_false] at ht
  rcases ht with rfl | rfl | rfl | rfl
  · refine ⟨by simp,fun i hi=>?_⟩
    have : i = 0:=by simpa using hi
    subst this
    exact hm
  · exact ⟨by decide,h1⟩
  · exact ⟨by simp [utf1],h3⟩
  · exact ⟨by simp [utf2],h4⟩
theorem laid_first : ("unicode/utf8.first",Lib.firstData) ∈ Rows.presenceTellsRow.laid:=by
  have e : Lib.firstData = Rows.laid_unicode_utf8_first:=by kernel_rfl
  rw [e]
  exact .tail _ (.tail _ (.head _))
theorem laid_accept : ("unicode/utf8.acceptRanges",Lib.acceptData) ∈ Rows.presenceTellsRow.laid:=by
  have e : Lib.acceptData = Rows.laid_unicode_utf8_acceptRanges:=by kernel_rfl
  rw [e]
  exact .tail _ (.head _)
end Go.Proofs.YtnpbglnfnhejiaaGreatDoor
