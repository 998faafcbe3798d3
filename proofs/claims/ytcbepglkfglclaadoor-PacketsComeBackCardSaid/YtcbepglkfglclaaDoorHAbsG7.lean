/-
  Printed functions: literals of slices whose elements are one cell.
-/
import Derived.Test.YtcbepglkfglclaaDoorHAbsG6
namespace Go.Abs
section
variable {nt : Nat} {σ : Sl} {hp : Heap} {ct d : Nat} {G : Nat → List IV} {R : Run} {Q : Sl → Heap → Nat → Prop} {l : List Ins}

/-- The elements of a literal, one behind the other. -/
inductive PartsI (nt : Nat) (σ : Sl) : Nat → List (Nat × Opd) → List IV → Prop
  | nil {k : Nat} : PartsI nt σ k [] []
  | cons {k : Nat} {x : Opd} {v : IV} {l : List (Nat × Opd)} {vs : List IV} (h : evσ nt σ x = .v (.c (I v))) (r : PartsI nt σ (k + 1) l vs) : PartsI nt σ k ((k, x) :: l) (v :: vs)

theorem PartsI.parts {k : Nat} {parts : List (Nat × Opd)} {vs : List IV} (h : PartsI nt σ k parts vs) : PartsP nt σ parts ((vs.zipIdx k).map fun (v, i) => (i, .c (I v))) := by
  induction h with
  | nil => exact .nil
  | cons h _ ih => exact .cons h ih
theorem PartsI.len {k : Nat} {parts : List (Nat × Opd)} {vs : List IV} (h : PartsI nt σ k parts vs) : vs.length = parts.length := by
  induction h with
  | nil => rfl
  | cons _ _ ih => simp [ih]
theorem fill_one (vs : List IV) : ∀ (k : Nat) (pre : List AC) (rest : List AC), pre.length = k → rest.length = vs.length →
    fillS 1 (pre ++ rest) ((vs.zipIdx k).map fun (v, i) => (i, .c (I v))) = some (pre ++ vs.map I) := by
  induction vs with
  | nil => intro k pre rest _ h2; simp at h2; subst h2; simp [fillS]
  | cons v vs ih =>
    intro k pre rest h1 h2
    cases rest with
    | nil => simp at h2
    | cons r rest =>
      simp only [List.zipIdx_cons, List.map_cons, fillS]
      rw [if_pos (by simp [A1.cells]; omega)]
      have e : lay (pre ++ r :: rest) (k * 1) (A1.c (I v)).cells = (pre ++ [I v]) ++ rest := by
        simp only [lay, Nat.mul_one, A1.cells, List.length_cons, List.length_nil, ← h1]
        simp
      rw [e, ih (k + 1) (pre ++ [I v]) rest (by simp [h1]) (by simpa using h2)]
      simp
theorem repC_len1 (n : Nat) (z : IV) : (repC n [z]).length = n := by
  induction n with
  | zero => rfl
  | succ n ih => simp [repC, ih]
theorem k_bslI {len : Nat} {z : IV} {parts : List (Nat × Opd)} {vs : List IV} (hp1 : PartsI nt σ 0 parts vs) (hb : len ≤ 16777216) (hl : vs.length = len) (n : wpL G R nt l Q (upd σ d (V (.lit 0 vs len))) hp ct) :
    wpL G R nt (.op (some d) none (.bsl 1 len [z] parts false) :: l) Q σ hp ct :=
  k_bslL hp1.parts ⟨by omega, rfl⟩ (by have := fill_one vs 0 [] (repC len [z]) rfl (by rw [repC_len1, hl]); simpa using this) n
theorem dep_bslI {S : List Nat} {dd : Option Nat} {len : Nat} {z : IV} {parts : List (Nat × Opd)} {vs : List IV} (hp1 : PartsI nt σ 0 parts vs) (hl : vs.length = len) : Dep S G R (mkS nt σ hp ct) (.op dd none (.bsl 1 len [z] parts false)) :=
  dep_bsl hp1.parts (by have := fill_one vs 0 [] (repC len [z]) rfl (by rw [repC_len1, hl]); simpa using this)
end
end Go.Abs
