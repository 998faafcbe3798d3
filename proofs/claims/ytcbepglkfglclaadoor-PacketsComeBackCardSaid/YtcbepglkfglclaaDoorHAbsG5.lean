/-
  Printed functions: a place of a table that is laid.
-/
import Derived.Test.YtcbepglkfglclaaDoorHAbsG4
import Derived.Test.YtcbepglkfglclaaDoorHAbsT
namespace Go.Abs
section
variable {nt : Nat} {σ : Sl} {hp : Heap} {ct d : Nat} {R : Run} {Q : Sl → Heap → Nat → Prop} {l : List Ins}

/-- The address of a place of a table of numbers. -/
theorem k_iadrT {k ki : IntKind} {zs : List Int} {len : Nat} {x i : Opd} {n y : Int} (hx : evσ nt σ x = .v (.c (I (.gp 0 0)))) (hi : evσ nt σ i = V (.int ki n)) (e : idx zs n = some y) (hl : zs.length = len)
    (nx : ∀ p, ep [] (tabG 0 k zs) hp p [I (.int k y)] → wpL (tabG 0 k zs) R nt l Q (upd σ d (.v (.c p))) hp ct) : wpL (tabG 0 k zs) R nt (.op (some d) none (.iadrA len 1 x i) :: l) Q σ hp ct := by
  obtain ⟨h1, h2, h3⟩ := idx_is e
  refine k_op (v := V (.gp 0 (0 + n.toNat * 1))) (hp' := hp) (ct' := ct) ?_ (nx _ ⟨⟨((zs.drop (n.toNat + 1)).map fun z => I (.int k z)), ?_⟩, .inr ⟨_, rfl⟩⟩)
  · simp only [opK, step, ev_mk, hx, hi, mkS_hp, mkS_ct]
    simp only [AV.nat, AV.int, V, h1, if_true, ← hl, h2]
  · have h4 : zs.drop n.toNat = y :: zs.drop (n.toNat + 1) := by
      rw [List.drop_eq_getElem_cons h2]
      rw [List.getElem?_eq_getElem h2] at h3
      rw [Option.some.inj h3]
    have h5 : ((zs.map (IV.int k)).drop n.toNat).map I = I (.int k y) :: (zs.drop (n.toNat + 1)).map fun z => I (.int k z) := by
      rw [← List.map_drop, h4]; simp; rfl
    show some (((if (0 : Nat) = 0 then zs.map (IV.int k) else []).drop (0 + n.toNat * 1)).map I) = _
    rw [if_pos rfl, Nat.zero_add, Nat.mul_one, h5]
    rfl
end
end Go.Abs
