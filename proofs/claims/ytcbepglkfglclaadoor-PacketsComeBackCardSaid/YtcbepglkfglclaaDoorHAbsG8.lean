/-
  Printed functions: blocks that a drawn region lays and writes, told in place.
-/
import Derived.Test.YtcbepglkfglclaaDoorHAbsG7
namespace Go.Abs

theorem cellIs : ∀ is : List IV, traverse cellI (is.map I) = some is
  | [] => rfl
  | i :: is => by rw [List.map_cons, traverse_cons, cellIs is]; rfl

section
variable {nt : Nat} {σ : Sl} {hp : Heap} {ct d : Nat} {G : Nat → List IV} {R : Run} {Q : Sl → Heap → Nat → Prop} {l : List Ins}

theorem k_clr {t : Nat} (nx : wpL G R nt l Q (upd σ t .und) hp ct) : wpL G R nt (.kill [t] [] :: l) Q σ hp ct := by
  refine ⟨upd σ t .und, hp, ct, ?_, nx⟩
  simp only [insI, List.foldl, delAll]
  exact congrArg some (set_mk t _ _)
theorem k_gal {n t : Nat} (hlt : t < nt) (hu : σ t = .und) (nx : wpL G R nt l Q σ hp ct) : wpL G R nt (.op none none (.galloc n t) :: l) Q σ hp ct := by
  refine k_op (v := .und) (hp' := hp) (ct' := ct) ?_ nx
  have hl : (mkS nt σ hp ct).tm.length = nt := by simp [mkS]
  simp only [opK, step, hl, if_pos hlt, get_mk, hu, mkS_hp, mkS_ct]
theorem k_gst {n : Nat} {y : Opd} {w : A1} (is : List IV) (hy : evσ nt σ y = .v w) (hn : w.cells.length = n) (hc : w.cells = is.map I) (nx : wpL G R nt l Q (upd σ d (V (.lp 0 is))) hp ct) : wpL G R nt (.op (some d) none (.gsto n y) :: l) Q σ hp ct := by
  refine k_op (v := V (.lp 0 is)) (hp' := hp) (ct' := ct) ?_ nx
  simp only [opK, step, ev_mk, hy, if_pos hn]
  simp only [hc, cellIs, mkS_hp, mkS_ct]
theorem k_eqv {neg : Bool} {ks : List Nat} {x y : Opd} {xs ys : List AC} {b : Bool} (hx : evσ nt σ x = .v (.agg xs)) (hy : evσ nt σ y = .v (.agg ys)) (he : eqCellsK ks xs ys = some b) (nx : wpL G R nt l Q (upd σ d (V (.bool (if neg then !b else b)))) hp ct) : wpL G R nt (.op (some d) none (.eqv neg ks x y) :: l) Q σ hp ct := by
  refine k_op (v := V (.bool (if neg then !b else b))) (hp' := hp) (ct' := ct) ?_ nx
  simp only [opK, step, ev_mk, hx, hy, he, Option.map_some, okv, mkS_hp, mkS_ct]
theorem dep_slc {S : List Nat} {d : Option Nat} {sz : Nat} {x : Opd} {lo hi : Option Opd} {a : AC} (hx : evσ nt σ x = .v (.c a)) (ha : lies a S) : Dep S G R (mkS nt σ hp ct) (.op d none (.slc sz x lo hi none)) := dep_op fun h c hag r hr => by
  have hb : ∀ d y, bound d (mkS nt σ h c) y = bound d (mkS nt σ hp ct) y := fun d y => bound_congr fun t _ => by simp only [get_mk]
  simp only [opK, step, ev_mk, hx, hb, mkS_hp, mkS_ct] at hr ⊢
  have fin : ∀ {p : Prop} [Decidable p] {v : AV}, (if p then some (v, hp, ct) else none) = some r → ∃ r', (if p then some (v, h, c) else none) = some r' ∧ r'.1 = r.1 := by
    intro p _ v e
    split at e
    · rename_i hp; have e := Option.some.inj e; subst e; exact ⟨_, if_pos hp, rfl⟩
    · simp at e
  have fin0 : ∀ {v : AV}, some (v, hp, ct) = some r → ∃ r', some (v, h, c) = some r' ∧ r'.1 = r.1 := fun {v} e => by
    have e := Option.some.inj e; subst e; exact ⟨_, rfl, rfl⟩
  cases a with
  | clo => exact ha.elim
  | r a => cases a with
    | sl b g off sz' n =>
      simp only [(row_ag (hag b ha) g).2] at hr ⊢
      cases h1 : bound 0 (mkS nt σ hp ct) lo with
      | none => simp [h1] at hr
      | some p => cases h2 : bound n (mkS nt σ hp ct) hi with
        | none => simp [h1, h2] at hr
        | some q => simp only [h1, h2] at hr ⊢; exact fin hr
    | i v =>
      cases v with
      | lit t cs n =>
        simp only at hr ⊢
        cases h1 : bound 0 (mkS nt σ hp ct) lo with
        | none => simp [h1] at hr
        | some p => cases h2 : bound n (mkS nt σ hp ct) hi with
          | none => simp [h1, h2] at hr
          | some q => simp only [h1, h2] at hr ⊢; exact fin hr
      | nilS =>
        simp only at hr ⊢
        split at hr
        · exact fin0 hr
        · simp at hr
      | emp =>
        simp only at hr ⊢
        split at hr
        · exact fin0 hr
        · simp at hr
      | _ => simp at hr
    | ptr => simp at hr
    | map => simp at hr
theorem k_bslO {α : Type} {E : Rep α} {f : Bool} {sz len : Nat} {zero : List IV} {parts : List (Nat × Opd)} {ps : List (Nat × A1)} {vs : List IV} {xs : List α} (hp1 : PartsP nt σ parts ps) (hb : len * sz ≤ 16777216 ∧ zero.length = sz) (hv : fillS sz (repC len zero) ps = some (vs.map I))
    (hr : rows E f vs xs) (hl : xs.length = len) (hz : E.sz = sz) (nx : ∀ a' hp', so [d] E f hp' a' xs → Fr [d] hp hp' → wpL G R nt l Q (upd σ d (.v (.c a'))) hp' (ct + 1)) : wpL G R nt (.op (some d) none (.bsl sz len zero parts true) :: l) Q σ hp ct := by
  subst hz; subst hl
  have hrl := rows_len hr
  refine k_op (v := .v (.c (.r (.sl d ct 0 E.sz xs.length)))) (hp' := hp.set d (.cells ct (vs.map I))) (ct' := ct + 1) ?_ (nx _ _ (.inr (.inr ⟨d, ct, 0, vs, vs, by simp, by simp, by simp [Heap.row, Heap.get_set], hr, by omega, by rw [List.drop_zero, List.take_of_length_le (by omega)]⟩)) (Fr.set _ _ _))
  rw [x_bsl, hp1.ev]
  simp only [hv, if_pos hb, if_true]
  rfl
theorem k_bslIO {α : Type} {E : Rep α} {f : Bool} {len : Nat} {z : IV} {parts : List (Nat × Opd)} {vs : List IV} {xs : List α} (hp1 : PartsI nt σ 0 parts vs) (hb : len ≤ 16777216) (hl : vs.length = len)
    (hr : rows E f vs xs) (hl2 : xs.length = len) (hz : E.sz = 1) (nx : ∀ a' hp', so [d] E f hp' a' xs → Fr [d] hp hp' → wpL G R nt l Q (upd σ d (.v (.c a'))) hp' (ct + 1)) : wpL G R nt (.op (some d) none (.bsl 1 len [z] parts true) :: l) Q σ hp ct :=
  k_bslO hp1.parts ⟨by omega, rfl⟩ (by have := fill_one vs 0 [] (repC len [z]) rfl (by rw [repC_len1, hl]); simpa using this) hr hl2 hz nx
end
end Go.Abs
