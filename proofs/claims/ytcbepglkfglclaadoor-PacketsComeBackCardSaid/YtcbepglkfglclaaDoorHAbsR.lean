/-
  Typed data beside the abstract machine: slices, calls, loops, results, as rules.
-/
import Derived.Test.YtcbepglkfglclaaDoorHAbsZ
namespace Go.Abs

/-- A pointer into cells that stand (of blocks at the places P, or told in place). -/
def ep (P : List Nat) (G : Nat → List IV) (hp : Heap) (p : AC) (cells : List AC) : Prop :=
  (∃ rest, lookAt G hp p = some (cells ++ rest)) ∧ ((∃ b g off, b ∈ P ∧ p = .r (.ptr b g off)) ∨ ∃ v, p = I v)
/-- A pointer into a slice of one's own: 'n' cells behind its begin. -/
def eo {α : Type} (P : List Nat) (R : Rep α) (f : Bool) (hp : Heap) (a : AC) (l : List α) (p : AC) (n : Nat) : Prop :=
  ∃ (b g off : Nat) (cs c : List IV), b ∈ P ∧ a = .r (.sl b g off R.sz l.length) ∧ p = .r (.ptr b g (off + n)) ∧ hp.row b g = some (cs.map I) ∧ rows R f c l ∧ off + l.length * R.sz ≤ cs.length ∧ (cs.drop off).take (l.length * R.sz) = c

theorem ep.fr {P P' : List Nat} {G : Nat → List IV} {hp hp' : Heap} {p : AC} {cells : List AC} (h : ep P G hp p cells) (k : Fr P' hp hp') (hd : P.all (fun b => !P'.contains b) = true) : ep P G hp' p cells := by
  refine ⟨?_, h.2⟩
  obtain ⟨rest, h1⟩ := h.1
  refine ⟨rest, ?_⟩
  rcases h.2 with ⟨b, g, off, hb, rfl⟩ | ⟨v, rfl⟩
  · have := List.all_eq_true.1 hd b hb
    simp only [lookAt] at h1 ⊢
    rw [k.row (by simpa using this)]; exact h1
  · cases v <;> simp only [lookAt] at h1 ⊢ <;> exact h1
theorem eo.fr {α : Type} {P P' : List Nat} {R : Rep α} {f : Bool} {hp hp' : Heap} {a p : AC} {l : List α} {n : Nat} (h : eo P R f hp a l p n) (k : Fr P' hp hp') (hd : P.all (fun b => !P'.contains b) = true) : eo P R f hp' a l p n := by
  obtain ⟨b, g, off, cs, c, hb, h1, h2, h3, h4⟩ := h
  have := List.all_eq_true.1 hd b hb
  exact ⟨b, g, off, cs, c, hb, h1, h2, by rw [k.row (by simpa using this)]; exact h3, h4⟩

theorem so.weak {α : Type} {P : List Nat} {R : Rep α} {f : Bool} {hp : Heap} {a : AC} {l : List α} (h : so P R f hp a l) : so P R false hp a l := by
  rcases h with h | h | ⟨b, g, off, cs, c, h1, h2, h3, h4, h5⟩
  · exact .inl h
  · exact .inr (.inl h)
  · exact .inr (.inr ⟨b, g, off, cs, c, h1, h2, h3, rows_weak h4, h5⟩)
theorem sa.weak {α : Type} {P : List Nat} {R : Rep α} {f : Bool} {hp : Heap} {a : AC} {l : List α} (h : sa P R f hp a l) : sa P R false hp a l := by
  rcases h with ⟨v, rfl, h⟩ | h
  · exact .inl ⟨v, rfl, sv_weak h⟩
  · exact .inr h.weak

/-- An end of a part of a slice. -/
inductive Bnd (nt : Nat) (σ : Sl) (z : Int) : Option Opd → Int → Prop
  | none : Bnd nt σ z none z
  | some {o : Opd} {k : IntKind} {m : Int} (h : evσ nt σ o = V (.int k m)) : Bnd nt σ z (some o) m

/-- Arguments: what they are, and what the callee sees of them. -/
inductive ArgsP (nt : Nat) (σ : Sl) (hp : Heap) (ids : List Nat) : List Opd → List A1 → List A1 → Prop
  | nil : ArgsP nt σ hp ids [] [] []
  | cons {x : Opd} {a a' : A1} {l : List Opd} {as as' : List A1} (h : evσ nt σ x = .v a) (t : to1 true hp ids a = some a') (r : ArgsP nt σ hp ids l as as') : ArgsP nt σ hp ids (x :: l) (a :: as) (a' :: as')
/-- Parts of what is built. -/
inductive PartsP (nt : Nat) (σ : Sl) : List (Nat × Opd) → List (Nat × A1) → Prop
  | nil : PartsP nt σ [] []
  | cons {i : Nat} {x : Opd} {a : A1} {l : List (Nat × Opd)} {as : List (Nat × A1)} (h : evσ nt σ x = .v a) (r : PartsP nt σ l as) : PartsP nt σ ((i, x) :: l) ((i, a) :: as)
/-- Cells that come back. -/
inductive BackP (hp : Heap) (pl : List (Nat × Nat × Nat)) (lent : Bool) : List AC → List IV → Prop
  | nil : BackP hp pl lent [] []
  | cons {c : AC} {v : IV} {cs : List AC} {vs : List IV} (h : backC hp pl lent c = some (I v)) (r : BackP hp pl lent cs vs) : BackP hp pl lent (c :: cs) (v :: vs)
/-- Results. -/
inductive ResP (nt : Nat) (σ : Sl) (hp : Heap) (pl : List (Nat × Nat × Nat)) (lent : Bool) : List Res → List A1 → Prop
  | nil : ResP nt σ hp pl lent [] []
  | tmp {t : Nat} {a a' : A1} {l : List Res} {vs : List A1} (h : evσ nt σ (.t t) = .v a) (b : back1 hp pl lent a = some a') (r : ResP nt σ hp pl lent l vs) : ResP nt σ hp pl lent (.tmp t :: l) (a' :: vs)
  | cell {t b g off n : Nat} {agg : Bool} {cs : List AC} {a a' : A1} {l : List Res} {vs : List A1} (h : evσ nt σ (.t t) = .v (.c (.r (.ptr b g off)))) (hb : hp.get b = some (.cells g cs)) (hl : ldc n agg off cs = some a)
      (k : back1 hp pl lent a = some a') (r : ResP nt σ hp pl lent l vs) : ResP nt σ hp pl lent (.cell t n agg :: l) (a' :: vs)

theorem ArgsP.ev {nt : Nat} {σ : Sl} {hp : Heap} {ids : List Nat} {l : List Opd} {as as' : List A1} (h : ArgsP nt σ hp ids l as as') : traverse (fun o => (evσ nt σ o).one) l = some as ∧ traverse (to1 true hp ids) as = some as' := by
  induction h with
  | nil => exact ⟨rfl, rfl⟩
  | cons h t _ ih => exact ⟨by rw [traverse_cons, h, ih.1]; rfl, by rw [traverse_cons, t, ih.2]⟩
theorem PartsP.ev {nt : Nat} {σ : Sl} {l : List (Nat × Opd)} {as : List (Nat × A1)} (h : PartsP nt σ l as) : traverse (fun p : Nat × Opd => (evσ nt σ p.2).one.map fun a => (p.1, a)) l = some as := by
  induction h with
  | nil => rfl
  | cons h _ ih => rw [traverse_cons, h, ih]; rfl
theorem BackP.ev {hp : Heap} {pl : List (Nat × Nat × Nat)} {lent : Bool} {cs : List AC} {vs : List IV} (h : BackP hp pl lent cs vs) : traverse (backC hp pl lent) cs = some (vs.map I) := by
  induction h with
  | nil => rfl
  | cons h _ ih => rw [traverse_cons, h, ih]; rfl
theorem BackP.agg {hp : Heap} {pl : List (Nat × Nat × Nat)} {lent : Bool} {cs : List AC} {vs : List IV} (h : BackP hp pl lent cs vs) : back1 hp pl lent (.agg cs) = some (.agg (vs.map I)) := by
  simp only [back1, h.ev, Option.map_some]
theorem back_sc {hp : Heap} {pl : List (Nat × Nat × Nat)} {lent : Bool} {v : IV} (h : v.fresh = true) : back1 hp pl lent (.c (I v)) = some (.c (I v)) := by
  simp only [back1, backC_inl (fun _ => h), Option.map_some]
theorem back_c {hp : Heap} {pl : List (Nat × Nat × Nat)} {lent : Bool} {a : AC} {v : IV} (h : backC hp pl lent a = some (I v)) : back1 hp pl lent (.c a) = some (.c (I v)) := by
  simp only [back1, h, Option.map_some]
theorem ResP.ev {nt : Nat} {σ : Sl} {hp : Heap} {pl : List (Nat × Nat × Nat)} {lent : Bool} {l : List Res} {vs : List A1} (h : ResP nt σ hp pl lent l vs) : ∃ rs, traverse (readRσ nt σ hp) l = some rs ∧ traverse (back1 hp pl lent) rs = some vs := by
  induction h with
  | nil => exact ⟨[], rfl, rfl⟩
  | tmp h b _ ih =>
    obtain ⟨rs, h1, h2⟩ := ih
    exact ⟨_ :: rs, by rw [traverse_cons, readRσ_tmp, h, h1]; rfl, by rw [traverse_cons, b, h2]⟩
  | cell h hb hl k _ ih =>
    obtain ⟨rs, h1, h2⟩ := ih
    refine ⟨_ :: rs, ?_, by rw [traverse_cons, k, h2]⟩
    rw [traverse_cons, h1]
    simp only [readRσ, h, row_of hb]
    unfold ldc at hl
    split at hl
    · rename_i cs' hc; simp only [hc, hl]
    · simp at hl

/-- What a pure call comes to. -/
def pc (R : Run) (f : Nat) (as : List A1) (fr : Bool) (P : List A1 → Prop) : Prop := ∀ lent, (lent = true → fr = true) → ∃ vs, pureCall R f as lent = some vs ∧ P vs
/-- What a method of a block comes to. -/
def meth (R : Run) (f : Nat) (cells : List IV) (as : List A1) (P : List A1 → List IV → Prop) : Prop :=
  ∃ rs h cs2 vs cells', R f (.c (.r (.ptr PB 0 0)) :: as) [.cells 0 (cells.map I)] = some (rs, h) ∧ h.get PB = some (.cells 0 cs2) ∧ (∀ b g, traverse (backC h [(PB, b, g)] false) cs2 = some (cells'.map I)) ∧ (∀ b g, traverse (back1 h [(PB, b, g)] false) rs = some vs) ∧ P vs cells'
def fin (lent : Bool) (P : List A1 → Prop) : List A1 → Heap → Prop := fun rs hp => ∃ vs, traverse (back1 hp [] lent) rs = some vs ∧ P vs
def finM (P : List A1 → List IV → Prop) : List A1 → Heap → Prop := fun rs hp =>
  ∃ cs2 vs cells', hp.get PB = some (.cells 0 cs2) ∧ (∀ b g, traverse (backC hp [(PB, b, g)] false) cs2 = some (cells'.map I)) ∧ (∀ b g, traverse (back1 hp [(PB, b, g)] false) rs = some vs) ∧ P vs cells'

section
variable {nt : Nat} {σ : Sl} {hp : Heap} {ct d : Nat} {G : Nat → List IV} {R : Run} {Q : Sl → Heap → Nat → Prop} {l : List Ins}

theorem k_len {α : Type} {E : Rep α} {P : List Nat} {f : Bool} {x : Opd} {a : AC} {xs : List α} (hx : evσ nt σ x = .v (.c a)) (hs : sa P E f hp a xs) (n : wpL G R nt l Q (upd σ d (V (.int .i64 xs.length))) hp ct) : wpL G R nt (.op (some d) none (.len 1 x) :: l) Q σ hp ct := by
  refine k_op (v := V (.int .i64 xs.length)) (hp' := hp) (ct' := ct) ?_ n
  rw [x_len, hx]
  rcases hs with ⟨v, rfl, ⟨rfl, rfl⟩ | ⟨rfl, rfl⟩ | ⟨t, c, rfl, h1, _⟩⟩ | ⟨rfl, rfl⟩ | ⟨rfl, rfl⟩ | ⟨b, g, off, cs, c, hb, rfl, h2, h3, h4, h5⟩
  · rfl
  · rfl
  · rfl
  · rfl
  · rfl
  · simp only [(Heap.row_eq h2).2, if_true]

theorem drop_at {α : Type} {E : Rep α} {f : Bool} {cs : List IV} {c : List IV} {xs : List α} {off n : Nat} {y : α} (_ : rows E f c xs) (_ : off + xs.length * E.sz ≤ cs.length) (h5 : (cs.drop off).take (xs.length * E.sz) = c) (hy : xs[n]? = some y) :
    ∃ rest, (cs.map I).drop (off + n * E.sz) = (((c.drop (n * E.sz)).take E.sz).map I) ++ rest := by
  obtain ⟨hn, _⟩ := List.getElem?_eq_some_iff.1 hy
  have hm : n * E.sz + E.sz ≤ xs.length * E.sz := by rw [← Nat.succ_mul]; exact Nat.mul_le_mul_right _ hn
  refine ⟨((cs.map I).drop (off + n * E.sz)).drop E.sz, ?_⟩
  have : ((c.drop (n * E.sz)).take E.sz).map I = ((cs.map I).drop (off + n * E.sz)).take E.sz := by
    rw [← h5, List.drop_take, List.take_take, Nat.min_eq_left (by omega), List.drop_drop, List.map_take, List.map_drop]
  rw [this, List.take_append_drop]

theorem k_iadrL {α : Type} {E : Rep α} {P : List Nat} {f : Bool} {sz : Nat} {x i : Opd} {a : AC} {xs : List α} {k : IntKind} {n : Int} {y : α} (hx : evσ nt σ x = .v (.c a)) (hs : sa P E f hp a xs) (hi : evσ nt σ i = V (.int k n)) (e : idx xs n = some y) (hz : E.sz = sz)
    (nx : ∀ p c, ep P G hp p (c.map I) → E.rp f c y → wpL G R nt l Q (upd σ d (.v (.c p))) hp ct) : wpL G R nt (.op (some d) none (.iadr sz x i) :: l) Q σ hp ct := by
  subst hz
  obtain ⟨h1, h2, h3⟩ := idx_is e
  rcases hs with ⟨v, rfl, ⟨rfl, rfl⟩ | ⟨rfl, rfl⟩ | ⟨t, c, rfl, h4, _⟩⟩ | ⟨rfl, rfl⟩ | ⟨rfl, rfl⟩ | ⟨b, g, off, cs, c, hb, rfl, h4, h5, h6, h7⟩
  · simp at h2
  · simp at h2
  · refine k_op (v := V (.lp t ((c.drop (n.toNat * E.sz)).take E.sz))) (hp' := hp) (ct' := ct) ?_ (nx _ ((c.drop (n.toNat * E.sz)).take E.sz) ⟨⟨[], ?_⟩, .inr ⟨_, rfl⟩⟩ (rows_get h4 h3))
    · rw [x_iadr, hx, hi]
      simp only [AV.nat, AV.int, V, h1, if_true, h2, rows_len h4, and_self]
    · simp [lookAt]
  · simp at h2
  · simp at h2
  · obtain ⟨rest, hr⟩ := drop_at h5 h6 h7 h3
    refine k_op (v := .v (.c (.r (.ptr b g (off + n.toNat * E.sz))))) (hp' := hp) (ct' := ct) ?_ (nx _ _ ⟨⟨rest, ?_⟩, .inl ⟨b, g, _, hb, rfl⟩⟩ (rows_get h5 h3))
    · rw [x_iadr, hx, hi]
      simp only [AV.nat, AV.int, V, h1, if_true, h2, (Heap.row_eq h4).2, and_self]
    · simp only [lookAt, h4, hr]

theorem k_fadrL {P : List Nat} {o : Nat} {x : Opd} {p : AC} {cells : List AC} (hx : evσ nt σ x = .v (.c p)) (h : ep P G hp p cells) (ho : o ≤ cells.length) (nx : ∀ p', ep P G hp p' (cells.drop o) → wpL G R nt l Q (upd σ d (.v (.c p'))) hp ct) : wpL G R nt (.op (some d) none (.fadr o x) :: l) Q σ hp ct := by
  obtain ⟨⟨rest, h1⟩, h2⟩ := h
  rcases h2 with ⟨b, g, off, hb, rfl⟩ | ⟨v, rfl⟩
  · simp only [lookAt] at h1
    split at h1
    · rename_i cs hcs
      have h1 := Option.some.inj h1
      refine k_op (v := .v (.c (.r (.ptr b g (off + o))))) (hp' := hp) (ct' := ct) ?_ (nx _ ⟨⟨rest, ?_⟩, .inl ⟨b, g, _, hb, rfl⟩⟩)
      · rw [x_fadr, hx]; simp only [(Heap.row_eq hcs).2, if_true]
      · simp only [lookAt, hcs]; rw [← List.drop_drop, h1, List.drop_append_of_le_length ho]
    · simp at h1
  · cases v <;> simp [lookAt] at h1
    case lp t cs =>
      refine k_op (v := V (.lp t (cs.drop o))) (hp' := hp) (ct' := ct) ?_ (nx _ ⟨⟨rest, ?_⟩, .inr ⟨_, rfl⟩⟩)
      · rw [x_fadr, hx]
      · simp only [lookAt]; rw [List.map_drop, h1, List.drop_append_of_le_length ho]
    case gp g off =>
      refine k_op (v := V (.gp g (off + o))) (hp' := hp) (ct' := ct) ?_ (nx _ ⟨⟨rest, ?_⟩, .inr ⟨_, rfl⟩⟩)
      · rw [x_fadr, hx]
      · simp only [lookAt]
        rw [← List.drop_drop, List.map_drop, List.map_drop, h1, List.drop_append_of_le_length ho]

theorem k_loadL {P : List Nat} {m : Nat} {agg : Bool} {x : Opd} {p : AC} {cells : List AC} {v : A1} (hx : evσ nt σ x = .v (.c p)) (h : ep P G hp p cells) (hv : ldc m agg 0 cells = some v) (n : wpL G R nt l Q (upd σ d (.v v)) hp ct) : wpL G R nt (.op (some d) none (.load m agg x) :: l) Q σ hp ct := by
  obtain ⟨⟨rest, h1⟩, h2⟩ := h
  refine k_op (v := .v v) (hp' := hp) (ct' := ct) ?_ n
  rw [x_load, hx]
  simp only [h1]
  unfold ldc takeN at hv
  unfold takeN
  simp only [List.drop_zero] at hv
  split at hv
  · rename_i cs hc
    split at hc
    · rename_i hle
      simp at hc
      rw [if_pos (by simp; omega), List.take_append_of_le_length hle, hc]
      simp only [hv, Option.map_some]
    · simp at hc
  · simp at hv

theorem bnd_nat {σ : Sl} {z : Nat} {o : Option Opd} {m : Int} (h : Bnd nt σ z o m) (hm : 0 ≤ m) : bound z (mkS nt σ hp ct) o = some m.toNat := by
  cases h with
  | none => simp [bound]
  | some h => simp only [bound, ev_mk, h, AV.nat, V, AV.int, hm, if_true]

theorem k_slcT {x : Opd} {lo hi : Option Opd} {a r : List UInt8} {m n : Int} (hx : evσ nt σ x = V (.str a)) (h1 : Bnd nt σ (0 : Nat) lo m) (h2 : Bnd nt σ a.length hi n) (e : sub a m n = some r) (nx : wpL G R nt l Q (upd σ d (V (.str r))) hp ct) :
    wpL G R nt (.op (some d) none (.slcS x lo hi) :: l) Q σ hp ct := by
  unfold sub at e
  split at e
  · rename_i hc
    have e := Option.some.inj e
    refine k_op ?_ nx
    have e2 : m.toNat ≤ n.toNat ∧ n.toNat ≤ a.length := by omega
    simp only [opK, step, ev_mk, hx, AV.strv, V, bnd_nat h1 hc.1, bnd_nat h2 (Int.le_trans hc.1 hc.2.1), e2, and_self, if_true, okv, Option.map_some, ← List.drop_take, e]
    rfl
  · simp at e

theorem sub_is {α : Type} {xs r : List α} {m n : Int} (e : sub xs m n = some r) : 0 ≤ m ∧ m ≤ n ∧ n ≤ xs.length ∧ r = (xs.drop m.toNat).take (n.toNat - m.toNat) := by
  unfold sub at e
  split at e
  · rename_i hc
    exact ⟨hc.1, hc.2.1, hc.2.2, by rw [← List.drop_take]; exact (Option.some.inj e).symm⟩
  · simp at e

theorem k_slcO {α : Type} {E : Rep α} {P : List Nat} {f : Bool} {sz : Nat} {x : Opd} {lo hi : Option Opd} {a : AC} {xs r : List α} {m n : Int} (hx : evσ nt σ x = .v (.c a)) (hs : so P E f hp a xs) (h1 : Bnd nt σ (0 : Nat) lo m) (h2 : Bnd nt σ xs.length hi n)
    (e : sub xs m n = some r) (hz : E.sz = sz) (nx : ∀ a', so P E f hp a' r → wpL G R nt l Q (upd σ d (.v (.c a'))) hp ct) : wpL G R nt (.op (some d) none (.slc sz x lo hi none) :: l) Q σ hp ct := by
  subst hz
  obtain ⟨c1, c2, c3, rfl⟩ := sub_is e
  have b1 := fun hp ct => bnd_nat (hp := hp) (ct := ct) h1 c1
  have b2 := fun hp ct => bnd_nat (hp := hp) (ct := ct) h2 (Int.le_trans c1 c2)
  rcases hs with ⟨rfl, rfl⟩ | ⟨rfl, rfl⟩ | ⟨b, g, off, cs, c, hb, rfl, h4, h5, h6, h7⟩
  · have e1 : m = 0 := by simp at c3; omega
    have e2 : n = 0 := by simp at c3; omega
    subst e1; subst e2
    refine k_op (v := V .nilS) (hp' := hp) (ct' := ct) ?_ (nx _ (.inl ⟨rfl, by simp⟩))
    simp only [opK, step, ev_mk, hx, V, b1, show bound 0 (mkS nt σ hp ct) hi = some 0 from by simpa using b2 hp ct, show bound 0 (mkS nt σ hp ct) none = some 0 from rfl]
    rfl
  · have e1 : m = 0 := by simp at c3; omega
    have e2 : n = 0 := by simp at c3; omega
    subst e1; subst e2
    refine k_op (v := V .emp) (hp' := hp) (ct' := ct) ?_ (nx _ (.inr (.inl ⟨rfl, by simp⟩)))
    simp only [opK, step, ev_mk, hx, V, b1, show bound 0 (mkS nt σ hp ct) hi = some 0 from by simpa using b2 hp ct, show bound 0 (mkS nt σ hp ct) none = some 0 from rfl]
    rfl
  · have hlen : ((xs.drop m.toNat).take (n.toNat - m.toNat)).length = n.toNat - m.toNat := by simp; omega
    have hle : m.toNat ≤ n.toNat ∧ n.toNat ≤ xs.length := by omega
    have hmul : m.toNat * E.sz + (n.toNat - m.toNat) * E.sz ≤ xs.length * E.sz := by rw [← Nat.add_mul]; exact Nat.mul_le_mul_right _ (by omega)
    refine k_op (v := .v (.c (.r (.sl b g (off + m.toNat * E.sz) E.sz (n.toNat - m.toNat))))) (hp' := hp) (ct' := ct) ?_ (nx _ (.inr (.inr ⟨b, g, off + m.toNat * E.sz, cs, (c.drop (m.toNat * E.sz)).take ((n.toNat - m.toNat) * E.sz), hb, by rw [hlen], h4, (rows_split _ (rows_split _ h5).2).1, ?_, ?_⟩)))
    · simp only [opK, step, ev_mk, hx, b1, b2, mkS_hp, mkS_ct, (Heap.row_eq h4).2, hle, and_self, if_true]
    · rw [hlen]; omega
    · rw [hlen, ← h7, List.drop_take, List.take_take, List.drop_drop, Nat.min_eq_left (by omega)]

theorem k_slcA {α : Type} {E : Rep α} {P : List Nat} {f : Bool} {sz : Nat} {x : Opd} {lo hi : Option Opd} {a : AC} {xs r : List α} {m n : Int} (hx : evσ nt σ x = .v (.c a)) (hs : sa P E f hp a xs) (h1 : Bnd nt σ (0 : Nat) lo m) (h2 : Bnd nt σ xs.length hi n)
    (e : sub xs m n = some r) (hz : E.sz = sz) (nx : ∀ a', sa P E f hp a' r → wpL G R nt l Q (upd σ d (.v (.c a'))) hp ct) : wpL G R nt (.op (some d) none (.slc sz x lo hi none) :: l) Q σ hp ct := by
  rcases hs with ⟨v, rfl, ⟨rfl, rfl⟩ | ⟨rfl, rfl⟩ | ⟨t, c, rfl, h4, h5⟩⟩ | hs
  · exact k_slcO (P := P) hx (.inl ⟨rfl, rfl⟩) h1 h2 e hz fun a' h => nx a' h.any
  · exact k_slcO (P := P) hx (.inr (.inl ⟨rfl, rfl⟩)) h1 h2 e hz fun a' h => nx a' h.any
  · subst hz
    obtain ⟨c1, c2, c3, rfl⟩ := sub_is e
    have hlen : ((xs.drop m.toNat).take (n.toNat - m.toNat)).length = n.toNat - m.toNat := by simp; omega
    have hle : m.toNat ≤ n.toNat ∧ n.toNat ≤ xs.length := by omega
    refine k_op (v := V (.lit t ((c.drop (m.toNat * E.sz)).take ((n.toNat - m.toNat) * E.sz)) (n.toNat - m.toNat))) (hp' := hp) (ct' := ct) ?_ (nx _ (.inl ⟨_, rfl, .inr (.inr ⟨t, _, by rw [hlen], (rows_split _ (rows_split _ h4).2).1, h5⟩)⟩))
    simp only [opK, step, ev_mk, hx, bnd_nat h1 c1, bnd_nat h2 (Int.le_trans c1 c2), mkS_hp, mkS_ct, hle, rows_len h4, and_self, if_true]
  · exact k_slcO hx hs h1 h2 e hz fun a' h => nx a' h.any

/-- What 'append' gives. -/
theorem k_app {α : Type} {E : Rep α} {P P' : List Nat} {f : Bool} {sz bytes : Nat} {x y : Opd} {a b : AC} {xs ys zs : List α} (hx : evσ nt σ x = .v (.c a)) (hs : so P E f hp a xs) (hy : evσ nt σ y = .v (.c b)) (ht : sa P' E f hp b ys) (e : app bytes xs ys = some zs) (hz : E.sz = sz)
    (nx : ∀ a' hp' ct', so (d :: P) E f hp' a' zs → Fr (d :: P) hp hp' → wpL G R nt l Q (upd σ d (.v (.c a'))) hp' ct') : wpL G R nt (.op (some d) none (.app sz bytes false x y) :: l) Q σ hp ct := by
  subst hz
  unfold app at e
  split at e
  · rename_i hb
    have e := Option.some.inj e
    subst e
    have hstr : isStrC b = false := by
      rcases ht with ⟨v, rfl, ⟨rfl, rfl⟩ | ⟨rfl, rfl⟩ | ⟨t, c, rfl, h4, h5⟩⟩ | ⟨rfl, rfl⟩ | ⟨rfl, rfl⟩ | ⟨b, g, off, cs, c, hb, rfl, h4⟩ <;> rfl
    obtain ⟨c, hc, hcs⟩ := ht.cells
    have hcl := rows_len hc
    rcases hs with ⟨rfl, rfl⟩ | ⟨rfl, rfl⟩ | ⟨b', g, off, cs, c', hb', rfl, h4, h5, h6, h7⟩
    · by_cases h0 : ys.length = 0
      · obtain rfl : ys = [] := List.length_eq_zero_iff.1 h0
        refine k_op (v := V .nilS) (hp' := hp) (ct' := ct) ?_ (nx _ _ _ (.inl ⟨rfl, rfl⟩) (Fr.refl _ _))
        rw [x_app, hx, hy]; simp only [hstr, if_true, hcs]; rfl
      · refine k_op (v := .v (.c (.r (.sl d ct 0 E.sz ys.length)))) (hp' := hp.set d (.cells ct (c.map I))) (ct' := ct + 1) ?_ (nx _ _ _ (.inr (.inr ⟨d, ct, 0, c, c, by simp, rfl, by simp [Heap.row, Heap.get_set], hc, by simp [hcl], by rw [List.drop_zero, List.nil_append, ← hcl, List.take_of_length_le (by simp)]⟩)) (fun q hq => by rw [Heap.get_set]; simp at hq; simp [hq.1]))
        rw [x_app, hx, hy]; simp only [hstr, if_true, hcs, h0, if_false, I]
        rw [if_pos (by simpa using hb)]; rfl
    · by_cases h0 : ys.length = 0
      · obtain rfl : ys = [] := List.length_eq_zero_iff.1 h0
        refine k_op (v := V .emp) (hp' := hp) (ct' := ct) ?_ (nx _ _ _ (.inr (.inl ⟨rfl, rfl⟩)) (Fr.refl _ _))
        rw [x_app, hx, hy]; simp only [hstr, if_true, hcs]; rfl
      · refine k_op (v := .v (.c (.r (.sl d ct 0 E.sz ys.length)))) (hp' := hp.set d (.cells ct (c.map I))) (ct' := ct + 1) ?_ (nx _ _ _ (.inr (.inr ⟨d, ct, 0, c, c, by simp, rfl, by simp [Heap.row, Heap.get_set], hc, by simp [hcl], by rw [List.drop_zero, List.nil_append, ← hcl, List.take_of_length_le (by simp)]⟩)) (fun q hq => by rw [Heap.get_set]; simp at hq; simp [hq.1]))
        rw [x_app, hx, hy]; simp only [hstr, if_true, hcs, h0, if_false, I]
        rw [if_pos (by simpa using hb)]; rfl
    · have hcl' := rows_len h5
      have hrow : (cs.map I).take (off + xs.length * E.sz) ++ c.map I = (cs.take (off + xs.length * E.sz) ++ c).map I := by rw [List.map_append, List.map_take]
      refine k_op (v := .v (.c (.r (.sl b' ct off E.sz (xs.length + ys.length))))) (hp' := hp.set b' (.cells ct ((cs.map I).take (off + xs.length * E.sz) ++ c.map I))) (ct' := ct + 1) ?_ (nx _ _ _ (.inr (.inr ⟨b', ct, off, cs.take (off + xs.length * E.sz) ++ c, c' ++ c, by simp [hb'], by simp, by rw [← hrow]; simp [Heap.row, Heap.get_set], rows_append hc h5, ?_, ?_⟩)) (fun q hq => by rw [Heap.get_set]; simp at hq; rw [if_neg]; rintro rfl; exact hq.2 hb'))
      · rw [x_app, hx, hy]; simp only [hstr, if_true, hcs, h4, List.length_map]
        rw [if_pos (by simpa using ⟨h6, hb⟩)]
      · simp [hcl, Nat.add_mul]; omega
      · have e1 : (cs.take (off + xs.length * E.sz)).drop off = c' := by rw [← h7, List.drop_take]; congr 1; omega
        have hoff : off ≤ (cs.take (off + xs.length * E.sz)).length := by simp; omega
        rw [List.drop_append_of_le_length hoff, e1, List.take_of_length_le]
        simp [hcl, hcl', Nat.add_mul]
  · simp at e

theorem k_mksl {α : Type} {E : Rep α} {f : Bool} {sz bytes : Nat} {zero : List IV} {x y : Opd} {k k' : IntKind} {n : Int} {z : α} {zs : List α} (hx : evσ nt σ x = V (.int k n)) (hy : evσ nt σ y = V (.int k' n)) (e : mkN bytes n z = some zs) (hzr : E.rp f zero z) (hz : E.sz = sz)
    (nx : ∀ a' hp', so [d] E f hp' a' zs → Fr [d] hp hp' → wpL G R nt l Q (upd σ d (.v (.c a'))) hp' (ct + 1)) : wpL G R nt (.op (some d) none (.mksl sz bytes zero x y) :: l) Q σ hp ct := by
  subst hz
  unfold mkN at e
  split at e
  · rename_i hb
    have e := Option.some.inj e
    subst e
    have hzl := E.len hzr
    have hr : rows E f (List.replicate n.toNat zero).flatten (List.replicate n.toNat z) := rows_replicate hzr _
    have hrl := rows_len hr
    simp only [List.length_replicate] at hrl
    refine k_op (v := .v (.c (.r (.sl d ct 0 E.sz n.toNat)))) (hp' := hp.set d (.cells ct (repC n.toNat zero))) (ct' := ct + 1) ?_ (nx _ _ (.inr (.inr ⟨d, ct, 0, (List.replicate n.toNat zero).flatten, _, by simp, by simp, by rw [← repC_flat]; simp [Heap.row, Heap.get_set], hr, ?_, ?_⟩)) (Fr.set _ _ _))
    · rw [x_mksl, hx, hy]
      simp only [AV.nat, AV.int, V, hb.1, if_true, hb.2.1, hzl, true_and, and_true]
      rw [if_pos (by omega)]; rfl
    · rw [hrl]; simp
    · rw [List.drop_zero, List.length_replicate, ← hrl, List.take_of_length_le (Nat.le_refl _)]
  · simp at e

theorem k_bslL {sz len : Nat} {zero : List IV} {parts : List (Nat × Opd)} {ps : List (Nat × A1)} {vs : List IV} (hp1 : PartsP nt σ parts ps) (hb : len * sz ≤ 16777216 ∧ zero.length = sz) (hv : fillS sz (repC len zero) ps = some (vs.map I)) (n : wpL G R nt l Q (upd σ d (V (.lit 0 vs len))) hp ct) :
    wpL G R nt (.op (some d) none (.bsl sz len zero parts false) :: l) Q σ hp ct :=
  k_op (by rw [x_bsl, hp1.ev]; simp only; rw [if_pos hb, hv]; simp only [rd_inls, Bool.false_eq_true, if_false]) n
theorem k_build {zero : List IV} {places : List (Nat × Nat)} {parts : List (Nat × Opd)} {ps : List (Nat × A1)} {cs : List AC} (hp1 : PartsP nt σ parts ps) (hv : fillP places (zero.map I) ps = some cs) (n : wpL G R nt l Q (upd σ d (.v (.agg cs))) hp ct) :
    wpL G R nt (.op (some d) none (.build zero places parts) :: l) Q σ hp ct :=
  k_op (by rw [x_build, hp1.ev]; simp only [hv, Option.map_some]) n

theorem k_iadrO {α : Type} {E : Rep α} {P : List Nat} {f : Bool} {sz : Nat} {x i : Opd} {a : AC} {xs : List α} {k : IntKind} {n : Int} (hx : evσ nt σ x = .v (.c a)) (hs : so P E f hp a xs) (hi : evσ nt σ i = V (.int k n)) (hn : 0 ≤ n ∧ n < xs.length) (hz : E.sz = sz)
    (nx : ∀ p, eo P E f hp a xs p (n.toNat * sz) → wpL G R nt l Q (upd σ d (.v (.c p))) hp ct) : wpL G R nt (.op (some d) none (.iadr sz x i) :: l) Q σ hp ct := by
  subst hz
  rcases hs with ⟨rfl, rfl⟩ | ⟨rfl, rfl⟩ | ⟨b, g, off, cs, c, hb, rfl, h4, h5, h6, h7⟩
  · simp at hn; omega
  · simp at hn; omega
  · have h2 : n.toNat < xs.length := by omega
    refine k_op (v := .v (.c (.r (.ptr b g (off + n.toNat * E.sz))))) (hp' := hp) (ct' := ct) ?_ (nx _ ⟨b, g, off, cs, c, hb, rfl, rfl, h4, h5, h6, h7⟩)
    rw [x_iadr, hx, hi]
    simp only [AV.nat, AV.int, V, hn.1, if_true, h2, (Heap.row_eq h4).2, and_self]
theorem k_fadrO {α : Type} {E : Rep α} {P : List Nat} {f : Bool} {o m : Nat} {x : Opd} {a p : AC} {xs : List α} (hx : evσ nt σ x = .v (.c p)) (h : eo P E f hp a xs p m)
    (nx : ∀ p', eo P E f hp a xs p' (m + o) → wpL G R nt l Q (upd σ d (.v (.c p'))) hp ct) : wpL G R nt (.op (some d) none (.fadr o x) :: l) Q σ hp ct := by
  obtain ⟨b, g, off, cs, c, hb, rfl, rfl, h4, h5⟩ := h
  refine k_op (v := .v (.c (.r (.ptr b g (off + (m + o)))))) (hp' := hp) (ct' := ct) ?_ (nx _ ⟨b, g, off, cs, c, hb, rfl, rfl, h4, h5⟩)
  rw [x_fadr, hx]
  simp only [(Heap.row_eq h4).2, if_true, Nat.add_assoc]
theorem lay_in {β : Type} (B W : List β) (N o m sz T : Nat) (h : o + m ≤ sz) (hN : N + sz ≤ T) (hT : T ≤ B.length) (hW : W.length = m) :
    (B.take (N + o) ++ W ++ B.drop (N + o + m)).take T = (B.take T).take N ++ ((((B.take T).drop N).take sz).take o ++ W ++ (((B.take T).drop N).take sz).drop (o + m)) ++ (B.take T).drop (N + sz) := by
  have e1 : (B.take T).take N ++ (((B.take T).drop N).take sz).take o = B.take (N + o) := by
    rw [List.take_take, List.take_take, Nat.min_eq_left (by omega), Nat.min_eq_left (by omega), List.drop_take, List.take_take, Nat.min_eq_left (by omega), ← List.take_add]
  have e2 : (((B.take T).drop N).take sz).drop (o + m) ++ (B.take T).drop (N + sz) = (B.take T).drop (N + o + m) := by
    have : (B.take T).drop (N + o + m) = ((B.take T).drop N).drop (o + m) := by rw [List.drop_drop]; congr 1; omega
    rw [this]
    conv => rhs; rw [← List.take_append_drop sz ((B.take T).drop N)]
    rw [List.drop_append_of_le_length (by simp; omega), List.drop_drop]
  have e3 : (B.take (N + o) ++ W ++ B.drop (N + o + m)).take T = B.take (N + o) ++ W ++ (B.take T).drop (N + o + m) := by
    rw [List.take_append, List.take_of_length_le (by simp; omega), List.drop_take]
    congr 2
    simp; omega
  rw [e3, ← e1, ← e2]
  simp
theorem k_storeO {α : Type} {E : Rep α} {P : List Nat} {f : Bool} {m o sz : Nat} {x y : Opd} {a p : AC} {w : A1} {ws : List IV} {xs : List α} {n : Int} {u u' : α} (hx : evσ nt σ x = .v (.c p)) (h : eo P E f hp a xs p (n.toNat * sz + o)) (hy : evσ nt σ y = .v w) (hw : w.cells = ws.map I) (hm : ws.length = m)
    (hu : idx xs n = some u) (ho : o + m ≤ sz) (hz : E.sz = sz) (hu' : ∀ c, E.rp f c u → E.rp f (c.take o ++ ws ++ c.drop (o + m)) u')
    (nx : ∀ hp', so P E f hp' a (xs.set n.toNat u') → Fr P hp hp' → wpL G R nt l Q σ hp' ct) : wpL G R nt (.op none none (.store m x y) :: l) Q σ hp ct := by
  subst hz
  obtain ⟨h1, h2, h3⟩ := idx_is hu
  obtain ⟨b, g, off, cs, c, hb, rfl, rfl, h4, h5, h6, h7⟩ := h
  have hrow := rows_get h5 h3
  have hmul : n.toNat * E.sz + E.sz ≤ xs.length * E.sz := by rw [← Nat.succ_mul]; exact Nat.mul_le_mul_right _ h2
  have hcl := rows_len h5
  generalize hN : n.toNat * E.sz = N at *
  have hlay : lay (cs.map I) (off + (N + o)) (ws.map I) = (cs.take (off + (N + o)) ++ ws ++ cs.drop (off + (N + o) + m)).map I := by simp [lay, hm]
  refine k_op (v := .und) (hp' := hp.set b (.cells g (lay (cs.map I) (off + (N + o)) w.cells))) (ct' := ct) ?_ (nx _ (.inr (.inr ⟨b, g, off, cs.take (off + (N + o)) ++ ws ++ cs.drop (off + (N + o) + m), c.take (n.toNat * E.sz) ++ ((((c.drop (n.toNat * E.sz)).take E.sz).take o) ++ ws ++ (((c.drop (n.toNat * E.sz)).take E.sz).drop (o + m))) ++ c.drop ((n.toNat + 1) * E.sz), hb, by simp, by rw [hw, hlay]; simp [Heap.row, Heap.get_set], rows_set h5 h2 (hu' _ (by rw [hN]; exact hrow)), ?_, ?_⟩)) (fun q hq => by rw [Heap.get_set, if_neg]; rintro rfl; exact hq hb))
  · rw [x_store, hx, hy]
    simp only [h4]
    rw [if_pos (by rw [hw, List.length_map, List.length_map]; exact ⟨hm, by omega⟩)]
  · rw [List.length_set]; simp; omega
  · rw [List.length_set, Nat.succ_mul, hN]
    have e0 : (cs.take (off + (N + o)) ++ ws ++ cs.drop (off + (N + o) + m)).drop off = (cs.drop off).take (N + o) ++ ws ++ (cs.drop off).drop (N + o + m) := by
      have q1 : off + (N + o) - off = N + o := by omega
      have q2 : off + (N + o) + m = off + (N + o + m) := by omega
      rw [List.append_assoc, List.drop_append_of_le_length (by simp; omega), List.drop_take, List.drop_drop, ← List.append_assoc, q1, q2]
    rw [e0, ← h7]
    exact lay_in _ _ N o m E.sz _ ho (by omega) (by simp; omega) hm

theorem k_call {dd : Option Nat} {f : Nat} {args : List Opd} {as as' : List A1} {fr : Bool} {P : List A1 → Prop} (ha : ArgsP nt σ hp [] args as as') (hc : pc R f as' fr P) (hl : fr = true ∨ (as.any fun a => a.cells.any (lentC [])) = false) (n : ∀ vs, P vs → wpL G R nt l Q (updO σ dd (resV vs)) hp ct) :
    wpL G R nt (.op dd none (.call f args { give := [], ad := [], pure := true }) :: l) Q σ hp ct := by
  obtain ⟨vs, h1, h2⟩ := hc (as.any fun a => a.cells.any (lentC [])) (fun h => by rcases hl with hl | hl; exact hl; rw [hl] at h; simp at h)
  exact k_op (opK_pure ha.ev.1 ha.ev.2 h1) (n vs h2)

theorem k_meth {dd : Option Nat} {f b g : Nat} {x : Opd} {args : List Opd} {as as' : List A1} {cells : List IV} {P : List A1 → List IV → Prop} (hx : evσ nt σ x = .v (.c (.r (.ptr b g 0)))) (hb : hp.get b = some (.cells g (cells.map I))) (ha : ArgsP nt σ hp [b] args as as') (hi : as.all A1.inl = true)
    (hc : meth R f (IV.retags 1 cells) as' P) (n : ∀ vs cells' hp', P vs cells' → hp'.get b = some (.cells g (cells'.map I)) → Fr [b] hp hp' → wpL G R nt l Q (updO σ dd (resV vs)) hp' (ct + 1)) :
    wpL G R nt (.op dd none (.call f (x :: args) { give := [], ad := [], pure := false }) :: l) Q σ hp ct := by
  obtain ⟨rs, h, cs2, vs, cells', h1, h2, h3, h4, h5⟩ := hc
  have ht : ∀ c : List IV, traverse (toC false hp [b]) (c.map I) = some ((IV.retags 1 c).map I) := by
    intro c
    induction c with
    | nil => rfl
    | cons v c ih => simp only [List.map_cons, traverse_cons, toC, toR, Option.map_some, ih, IV.retags]
  refine k_op (call_ptr (by rw [traverse_cons, hx, ha.ev.1]; rfl) hi ha.ev.2 hb (ht cells) h1 h2 (h3 b g) (h4 b g)) (n vs cells' _ h5 (by rw [Heap.get_set]; simp) (Fr.set _ _ _))

end

/- Loops. -/
section
variable {S E : Type}
def loopF (step : S → Option (S ⊕ E)) : Nat → S → Option E
  | 0, _ => none
  | n + 1, s => match step s with
    | none => none
    | some (.inl s') => loopF step n s'
    | some (.inr e) => some e
theorem loopF_mono {step : S → Option (S ⊕ E)} : ∀ {n m : Nat} {s : S} {e : E}, n ≤ m → loopF step n s = some e → loopF step m s = some e
  | 0, _, _, _, _, h => by simp [loopF] at h
  | n + 1, 0, _, _, h, _ => by omega
  | n + 1, m + 1, s, e, h, k => by
    simp only [loopF] at k ⊢
    split at k
    · simp at k
    · exact loopF_mono (by omega) k
    · exact k
/-- What a loop comes to. -/
noncomputable def loopO (step : S → Option (S ⊕ E)) (s : S) : Option E :=
  open Classical in if h : ∃ e n, loopF step n s = some e then some h.choose else none
theorem loopO_of {step : S → Option (S ⊕ E)} {n : Nat} {s : S} {e : E} (h : loopF step n s = some e) : loopO step s = some e := by
  have hex : ∃ e n, loopF step n s = some e := ⟨e, n, h⟩
  unfold loopO
  rw [dif_pos hex]
  obtain ⟨m, hm⟩ := hex.choose_spec
  have h1 := loopF_mono (Nat.le_max_left n m) h
  have h2 := loopF_mono (Nat.le_max_right n m) hm
  rw [h1] at h2
  exact h2.symm
theorem loopO_ex {step : S → Option (S ⊕ E)} {s : S} {e : E} (h : loopO step s = some e) : ∃ n, loopF step n s = some e := by
  unfold loopO at h
  split at h
  · rename_i hex
    have h := Option.some.inj h
    rw [← h]; exact hex.choose_spec
  · simp at h
/-- One round. -/
theorem loopO_eq (step : S → Option (S ⊕ E)) (s : S) : loopO step s = match step s with
    | none => none
    | some (.inl s') => loopO step s'
    | some (.inr e) => some e := by
  apply Option.ext
  intro e
  constructor
  · intro h
    obtain ⟨n, h⟩ := loopO_ex h
    cases n with
    | zero => simp [loopF] at h
    | succ n =>
      simp only [loopF] at h
      split at h
      · simp at h
      · exact loopO_of h
      · exact h
  · intro h
    split at h
    · simp at h
    · rename_i s' hs
      obtain ⟨n, h⟩ := loopO_ex h
      exact loopO_of (n := n + 1) (by simp only [loopF, hs]; exact h)
    · rename_i e' hs
      exact loopO_of (n := 1) (by simp only [loopF, hs]; exact h)

def lpost (I : S → Sl → Heap → Nat → Prop) (X : E → Ex → Sl → Heap → Nat → Prop) : S ⊕ E → Ex → Sl → Heap → Nat → Prop
  | .inl s, ex, σ, hp, ct => ex = .normal ∧ I s σ hp ct
  | .inr e, ex, σ, hp, ct => ex ≠ .normal ∧ X e ex σ hp ct

theorem e_loop {nt : Nat} {σ : Sl} {hp : Heap} {ct : Nat} {G : Nat → List IV} {R : Run} {step : S → Option (S ⊕ E)} {s0 : S} {e : E} {a : IR} (h : loopO step s0 = some e) (I : S → Sl → Heap → Nat → Prop) (X : E → Ex → Sl → Heap → Nat → Prop) (h0 : I s0 σ hp ct)
    (hs : ∀ s o σ hp ct, step s = some o → I s σ hp ct → wpE G R nt a σ hp ct (lpost I X o)) : wpE G R nt (.loop a) σ hp ct (X e) := by
  obtain ⟨n, hn⟩ := loopO_ex h
  have hm : ∀ n s σ hp ct, I s σ hp ct → loopF step n s = some e → wpE G R nt (.loop a) σ hp ct (X e) := by
    intro n
    induction n with
    | zero => intro s σ hp ct _ h; simp [loopF] at h
    | succ n ih =>
      intro s σ hp ct hI h
      simp only [loopF] at h
      split at h
      · simp at h
      · rename_i s' hst
        obtain ⟨k, ex, σ', hp', ct', h1, rfl, h2⟩ := hs s _ σ hp ct hst hI
        obtain ⟨k2, ex2, σ2, hp2, ct2, h3, h4⟩ := ih s' σ' hp' ct' h2 h
        refine ⟨max k k2 + 1, ex2, σ2, hp2, ct2, ?_, h4⟩
        simp only [exec, loopN] at h3 ⊢
        rw [exec_mono R.le_refl (by omega : k ≤ max k k2 + 1) h1]
        exact loopN_mono (fun s r h => exec_mono R.le_refl (by omega : k2 ≤ max k k2 + 1) h) (Nat.le_max_right k k2) h3
      · rename_i e' hst
        obtain ⟨k, ex, σ', hp', ct', h1, h5, h2⟩ := hs s _ σ hp ct hst hI
        have h := Option.some.inj h
        subst h
        refine ⟨k + 1, ex, σ', hp', ct', ?_, h2⟩
        simp only [exec, loopN]
        rw [exec_mono R.le_refl (by omega : k ≤ k + 1) h1]
        cases ex with
        | normal => exact absurd rfl h5
        | _ => rfl
  exact hm n s0 σ hp ct h0 hn
end

section
variable {nt : Nat} {σ : Sl} {hp : Heap} {ct : Nat} {G : Nat → List IV} {R : Run} {Q : Ex → Sl → Heap → Nat → Prop}
theorem e_reg {l : List Ins} {b : IR} (h : wpL G R nt l (fun σ hp ct => wpE G R nt b σ hp ct Q) σ hp ct) : wpE G R nt (.seq (.reg l) b) σ hp ct Q := wpE_seq (wp_reg h)
theorem e_regD {l : List Ins} {pre : List (List Nat)} {b : IR} (hd : drawStatic l pre = true) (hf : drawFree l pre = true) (h : wpL G R nt l (fun σ hp ct => wpE G R nt b σ hp ct Q) σ hp ct) : wpE G R nt (.seq (.regD l pre) b) σ hp ct Q := wpE_seq (wp_regD hd hf h)
theorem e_last {l : List Ins} (h : wpL G R nt l (fun σ hp ct => Q .normal σ hp ct) σ hp ct) : wpE G R nt (.reg l) σ hp ct Q := wp_reg h
theorem e_lastD {l : List Ins} {pre : List (List Nat)} (hd : drawStatic l pre = true) (hf : drawFree l pre = true) (h : wpL G R nt l (fun σ hp ct => Q .normal σ hp ct) σ hp ct) : wpE G R nt (.regD l pre) σ hp ct Q := wp_regD hd hf h

theorem fn_pure {F : Nat → Option Fn} {X : Run} {f : Nat} {fn : Fn} (hf : F f = some fn) {args : List A1} (hn : args.length ≤ fn.nt) {fr : Bool} {P : List A1 → Prop}
    (h : ∀ lent, (lent = true → fr = true) → wpE G (lim G F X) fn.nt fn.body (ini args) [] 1 (atEnd fn.nt fn.res (fin lent P))) : pc (lim G F X) f args fr P := by
  intro lent hl
  obtain ⟨rs, hp, h1, vs, h2, h3⟩ := fn_wp (bs := []) hf hn (h lent hl)
  exact ⟨vs, by simp only [pureCall, h1, h2], h3⟩
theorem fn_meth {F : Nat → Option Fn} {X : Run} {f : Nat} {fn : Fn} (hf : F f = some fn) {args : List A1} {cells : List IV} (hn : args.length + 1 ≤ fn.nt) {P : List A1 → List IV → Prop}
    (h : ∀ hp0, hp0.get PB = some (.cells 0 (cells.map I)) → wpE G (lim G F X) fn.nt fn.body (ini (.c (.r (.ptr PB 0 0)) :: args)) hp0 1 (atEnd fn.nt fn.res (finM P))) : meth (lim G F X) f cells args P := by
  obtain ⟨rs, hp, h1, cs2, vs, cells', h2, h3, h4, h5⟩ := fn_wp (bs := [.cells 0 (cells.map I)]) hf (args := .c (.r (.ptr PB 0 0)) :: args) (by simpa using hn) (h _ (by simp [List.zipIdx]))
  exact ⟨rs, hp, cs2, vs, cells', h1, h2, h3, h4, h5⟩
theorem e_ret {res : List Res} {lent : Bool} {P : List A1 → Prop} {vs : List A1} (h : ResP nt σ hp [] lent res vs) (hP : P vs) : atEnd nt res (fin lent P) .ret σ hp ct := by
  obtain ⟨rs, h1, h2⟩ := h.ev
  exact ⟨rs, h1, vs, h2, hP⟩
theorem e_retM {res : List Res} {P : List A1 → List IV → Prop} {vs : List A1} {cells' : List IV} {cs2 : List AC} (hb : hp.get PB = some (.cells 0 cs2)) (hc : ∀ b g, BackP hp [(PB, b, g)] false cs2 cells') (h : ∀ b g, ResP nt σ hp [(PB, b, g)] false res vs) (hP : P vs cells') : atEnd nt res (finM P) .ret σ hp ct := by
  obtain ⟨rs, h1, _⟩ := (h 0 0).ev
  refine ⟨rs, h1, cs2, vs, cells', hb, fun b g => (hc b g).ev, fun b g => ?_, hP⟩
  obtain ⟨rs', h3, h4⟩ := (h b g).ev
  rw [h1] at h3
  have h3 := Option.some.inj h3
  rw [h3]; exact h4
end

def bnd {α β : Type} (a : α) (f : α → β) : β := f a
theorem bnd_e {α β : Type} {a : α} {f : α → β} {r : β} (h : bnd a f = r) : ∃ x, a = x ∧ f x = r := ⟨a, rfl, h⟩
/-- A loop that may end the function. -/
def lret {E R β : Type} (o : Option (E ⊕ R)) (k : E → Option β) (w : R → Option β) : Option β := match o with
  | none => none
  | some (.inl e) => k e
  | some (.inr r) => w r
theorem lret_e {E R β : Type} {o : Option (E ⊕ R)} {k : E → Option β} {w : R → Option β} {b : β} (h : lret o k w = some b) : ∃ e, o = some e ∧ (match e with | .inl e => k e | .inr r => w r) = some b := by
  cases o with
  | none => simp [lret] at h
  | some e => cases e with
    | inl e => exact ⟨_, rfl, h⟩
    | inr r => exact ⟨_, rfl, h⟩
theorem cgI {k : IntKind} {a b : Int} (h : a = b) : V (.int k a) = V (.int k b) := by rw [h]
theorem cgB {a b : Bool} (h : a = b) : V (.bool a) = V (.bool b) := by rw [h]
theorem cgS {a b : List UInt8} (h : a = b) : V (.str a) = V (.str b) := by rw [h]
theorem bt (b : Bool) : b = true ∨ b = false := by cases b <;> simp
/-- Slots that are not among those of a piece of code. -/
def kp (L : List Nat) (lo hi t : Nat) : Bool := !(L.contains t) && (decide (t < lo) || decide (hi < t))
def Keep (L : List Nat) (lo hi : Nat) (σ σ' : Sl) : Prop := ∀ t, kp L lo hi t = true → σ' t = σ t
theorem Keep.refl (L : List Nat) (lo hi : Nat) (σ : Sl) : Keep L lo hi σ σ := fun _ _ => rfl
theorem Keep.trans {L : List Nat} {lo hi : Nat} {σ σ' σ'' : Sl} (h : Keep L lo hi σ σ') (k : Keep L lo hi σ' σ'') : Keep L lo hi σ σ'' := fun t ht => (k t ht).trans (h t ht)
theorem Keep.upd {L : List Nat} {lo hi : Nat} {σ σ' : Sl} (h : Keep L lo hi σ σ') {d : Nat} (hd : kp L lo hi d = false) (v : AV) : Keep L lo hi σ (upd σ' d v) := fun t ht => by
  rw [upd_ne]; exact h t ht
  rintro rfl; rw [hd] at ht; simp at ht
theorem obind {α β : Type} {o : Option α} {f : α → Option β} {r : β} (h : o.bind f = some r) : ∃ y, o = some y ∧ f y = some r := by
  cases o with
  | none => simp at h
  | some y => exact ⟨y, rfl, h⟩
theorem ctrue {α : Type} {p : Bool} {a b : α} {r : α} (h : (bif p then a else b) = r) (e : p = true) : a = r := by subst e; exact h
theorem cfalse {α : Type} {p : Bool} {a b : α} {r : α} (h : (bif p then a else b) = r) (e : p = false) : b = r := by subst e; exact h
end Go.Abs
