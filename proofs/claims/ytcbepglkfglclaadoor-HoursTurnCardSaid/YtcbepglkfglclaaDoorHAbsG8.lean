/-
  Printed functions: blocks that a drawn region lays and writes, told in place.
-/
import Derived.Test.YtcbepglkfglclaaDoorHAbsG7
namespace Go.Abs

theorem cellIs : ∀ is : List IV, traverse cellI (is.map I) = some is
  | [] => rfl
  | i :: is => by rw [List.map_cons, traverse_cons, cellIs is]; rfl

section
variable {nt : Nat} {σ : Sl} {hp : Heap} {ct d : Nat} {G : Nat → List IV} {R : Run} {Q : Sl → Heap → Nat → Prop} {l : List Ins}

theorem k_clr {t : Nat} (nx : wpL G R nt l Q (upd σ t .und) hp ct) : wpL G R nt (.kill [t] [] :: l) Q σ hp ct := by
  refine ⟨upd σ t .und, hp, ct, ?_, nx⟩
  simp only [insI, List.foldl, delAll]
  exact congrArg some (set_mk t _ _)
theorem k_gal {n t : Nat} (hlt : t < nt) (hu : σ t = .und) (nx : wpL G R nt l Q σ hp ct) : wpL G R nt (.op none none (.galloc n t) :: l) Q σ hp ct := by
  refine k_op (v := .und) (hp' := hp) (ct' := ct) ?_ nx
  have hl : (mkS nt σ hp ct).tm.length = nt := by simp [mkS]
  simp only [opK, step, hl, if_pos hlt, get_mk, hu, mkS_hp, mkS_ct]
theorem k_gst {n : Nat} {y : Opd} {w : A1} (is : List IV) (hy : evσ nt σ y = .v w) (hn : w.cells.length = n) (hc : w.cells = is.map I) (nx : wpL G R nt l Q (upd σ d (V (.lp 0 is))) hp ct) : wpL G R nt (.op (some d) none (.gsto n y) :: l) Q σ hp ct := by
  refine k_op (v := V (.lp 0 is)) (hp' := hp) (ct' := ct) ?_ nx
  simp only [opK, step, ev_mk, hy, if_pos hn]
  simp only [hc, cellIs, mkS_hp, mkS_ct]
end
end Go.Abs
