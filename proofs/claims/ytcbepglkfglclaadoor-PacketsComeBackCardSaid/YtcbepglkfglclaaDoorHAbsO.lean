/-
  The abstract machine beside Go's model: regions that draw their order.
-/
import Derived.Test.YtcbepglkfglclaaDoorHAbsM
import Derived.Orders
namespace Go.Abs
open Go.RowKit

section
variable {G : Nat → List IV} {R : Run} {s s' : St}

theorem ev_congr {x : Opd} (h : ∀ t ∈ opdT x, s.get t = s'.get t) : ev s x = ev s' x := by
  cases x <;> simp [ev, opdT] at h ⊢
  exact h

theorem traverse_congr {α β : Type} {f g : α → Option β} : ∀ {l : List α}, (∀ x ∈ l, f x = g x) → traverse f l = traverse g l
  | [], _ => rfl
  | a :: l, h => by
    simp only [traverse]
    rw [h a (List.mem_cons_self ..), traverse_congr fun x hx => h x (List.mem_cons_of_mem _ hx)]

theorem bound_congr {d : Nat} {x : Option Opd} (h : ∀ t ∈ optT x, s.get t = s'.get t) : bound d s x = bound d s' x := by
  cases x <;> simp [bound, optT] at h ⊢
  rw [ev_congr h]

theorem doCall_congr (h1 : s.hp = s'.hp) (h2 : s.ct = s'.ct) {f : Nat} {args : List A1} {how : How} : doCall R s f args how = doCall R s' f args how := by
  simp only [doCall, h1, h2]

theorem opK_congr (h0 : s.tm.length = s'.tm.length) (h1 : s.hp = s'.hp) (h2 : s.ct = s'.ct) {d : Nat} {k : K} (h : ∀ t ∈ k.reads, s.get t = s'.get t) : opK G R s d k = opK G R s' d k := by
  have hl : ∀ {l : List Opd}, (∀ t ∈ l.flatMap opdT, s.get t = s'.get t) → ∀ x ∈ l, ev s x = ev s' x := fun h x hx => ev_congr fun t ht => h t (List.mem_flatMap.2 ⟨x, hx, ht⟩)
  cases k
  case call f l how =>
    simp only [K.reads] at h
    have e : evals s l = evals s' l := traverse_congr fun x hx => by rw [hl h x hx]
    simp only [opK, e]
    split
    · exact doCall_congr h1 h2
    · rfl
  case callv x l how =>
    simp only [K.reads, List.mem_append] at h
    have e : evals s l = evals s' l := traverse_congr fun x hx => by rw [hl (fun t ht => h t (.inr ht)) x hx]
    have e2 : ev s x = ev s' x := ev_congr fun t ht => h t (.inl ht)
    simp only [opK, e, e2]
    split <;> first | exact doCall_congr h1 h2 | rfl
  case build z ps l =>
    simp only [K.reads] at h
    have e : traverse (fun p : Nat × Opd => (ev s p.2).one.map fun a => (p.1, a)) l = traverse (fun p : Nat × Opd => (ev s' p.2).one.map fun a => (p.1, a)) l :=
      traverse_congr fun x hx => by rw [ev_congr (s := s) (s' := s') fun t ht => h t (List.mem_flatMap.2 ⟨x, hx, ht⟩)]
    simp only [opK, step, ok1, e, h1, h2]
  case bsl sz n z l own =>
    simp only [K.reads] at h
    have e : traverse (fun p : Nat × Opd => (ev s p.2).one.map fun a => (p.1, a)) l = traverse (fun p : Nat × Opd => (ev s' p.2).one.map fun a => (p.1, a)) l :=
      traverse_congr fun x hx => by rw [ev_congr (s := s) (s' := s') fun t ht => h t (List.mem_flatMap.2 ⟨x, hx, ht⟩)]
    simp only [opK, step, e, h1, h2]
  case mkfn f l =>
    simp only [K.reads] at h
    simp only [opK, step, h1, h2]
    refine congrArg (fun q : Option (List AR) => match q with | some cs => some (AV.v (A1.c (mkClo f cs)), s'.hp, s'.ct) | none => none) (traverse_congr fun x hx => ?_)
    rw [hl h x hx]
  case mx l =>
    simp only [K.reads] at h
    have e : l.map (ev s) = l.map (ev s') := List.map_congr_left fun x hx => hl h x hx
    simp only [opK, step, e, h1, h2]
  case mn l =>
    simp only [K.reads] at h
    have e : l.map (ev s) = l.map (ev s') := List.map_congr_left fun x hx => hl h x hx
    simp only [opK, step, e, h1, h2]
  case alloc | mkmap | lenA => simp only [opK, step, okv, h1, h2]
  case galloc n t =>
    have ht := h t (by simp [K.reads])
    simp only [opK, step, h0, h1, h2, ht]
  case pick | mupd | ests =>
    simp only [K.reads, List.mem_append] at h
    have e1 := ev_congr fun t ht => h t (.inl (.inl ht))
    have e2 := ev_congr fun t ht => h t (.inl (.inr ht))
    have e3 := ev_congr fun t ht => h t (.inr ht)
    simp only [opK, step, e1, e2, e3, h1, h2]
  case slcS =>
    simp only [K.reads, List.mem_append] at h
    have e1 := ev_congr fun t ht => h t (.inl (.inl ht))
    have e2 := fun d => bound_congr (d := d) fun t ht => h t (.inl (.inr ht))
    have e3 := fun d => bound_congr (d := d) fun t ht => h t (.inr ht)
    simp only [opK, step, okv, e1, e2, e3, h1, h2]
  case slcA =>
    simp only [K.reads, List.mem_append] at h
    have e1 := ev_congr fun t ht => h t (.inl (.inl ht))
    have e2 := fun d => bound_congr (d := d) fun t ht => h t (.inl (.inr ht))
    have e3 := fun d => bound_congr (d := d) fun t ht => h t (.inr ht)
    simp only [opK, step, okv, e1, e2, e3, h1, h2]
  case slc =>
    simp only [K.reads, List.mem_append] at h
    have e1 := ev_congr fun t ht => h t (.inl (.inl (.inl ht)))
    have e2 := fun d => bound_congr (d := d) fun t ht => h t (.inl (.inl (.inr ht)))
    have e3 := fun d => bound_congr (d := d) fun t ht => h t (.inl (.inr ht))
    have e4 := fun d => bound_congr (d := d) fun t ht => h t (.inr ht)
    simp only [opK, step, e1, e2, e3, e4, h1, h2]
  case mov | fld | un | cvI | cvIS | cvSS | cvBS | cvSB | box | load | nilchk | fadr | len | ext | rng | nxt | gsto =>
    simp only [K.reads] at h
    have e1 := ev_congr h
    simp only [opK, step, okv, ok1, e1, h1, h2]
  all_goals
    simp only [K.reads, List.mem_append] at h
    have e1 := ev_congr fun t ht => h t (.inl ht)
    have e2 := ev_congr fun t ht => h t (.inr ht)
    simp only [opK, step, okv, ok1, appTo, e1, e2, h1, h2]

theorem insV_congr (h0 : s.tm.length = s'.tm.length) (h1 : s.hp = s'.hp) (h2 : s.ct = s'.ct) {d : Option Nat} {g : Option (Nat × Bool)} {k : K} (h : ∀ t ∈ (Ins.op d g k).reads, s.get t = s'.get t) : insV G R s d g k = insV G R s' d g k := by
  simp only [Ins.reads, List.mem_append] at h
  have hw : want s g = want s' g := by
    cases g with
    | none => rfl
    | some p => simp only [want]; rw [h p.1 (.inl (by simp))]
  simp only [insV, hw, h1, h2]
  rw [opK_congr h0 h1 h2 fun t ht => h t (.inr ht)]

/-- Who turns no memory leaves it. -/
theorem step_stays {d : Nat} {k : K} (hk : k.turns = false) {r : AV × Heap × Nat} (h : opK G R s d k = some r) : r.2.1 = s.hp ∧ r.2.2 = s.ct := by
  have okv_ : ∀ {v : Option IV}, okv s v = some r → r.2.1 = s.hp ∧ r.2.2 = s.ct := fun {v} h => by
    cases v <;> simp [okv] at h
    subst h; exact ⟨rfl, rfl⟩
  have ok1_ : ∀ {v : Option A1}, ok1 s v = some r → r.2.1 = s.hp ∧ r.2.2 = s.ct := fun {v} h => by
    cases v <;> simp [ok1] at h
    subst h; exact ⟨rfl, rfl⟩
  have map_ : ∀ {v : Option AV}, (v.map fun v => (v, s.hp, s.ct)) = some r → r.2.1 = s.hp ∧ r.2.2 = s.ct := fun {v} h => by
    cases v <;> simp at h
    subst h; exact ⟨rfl, rfl⟩
  have some_ : ∀ {v : AV}, some (v, s.hp, s.ct) = some r → r.2.1 = s.hp ∧ r.2.2 = s.ct := fun {v} h => by
    simp at h
    subst h; exact ⟨rfl, rfl⟩
  have dc : ∀ {f : Nat} {as : List A1} {how : How}, how.pure = true → doCall R s f as how = some r → r.2.1 = s.hp ∧ r.2.2 = s.ct := fun {f as how} hp h => by
    simp only [doCall, hp, if_true] at h
    repeat' split at h
    all_goals first | exact some_ h | simp at h
  cases k <;> simp [K.turns] at hk
  case call =>
    simp only [opK] at h
    split at h
    · exact dc hk h
    · simp at h
  case callv =>
    simp only [opK] at h
    split at h
    · exact dc hk h
    · exact dc hk h
    · simp at h
  case bsl =>
    subst hk
    simp only [opK, step, Bool.false_eq_true, if_false] at h
    repeat' split at h
    all_goals first | exact some_ h | simp at h
  all_goals
    simp only [opK, step] at h
    repeat' split at h
    all_goals first | exact okv_ h | exact ok1_ h | exact map_ h | exact some_ h | (simp at h; done)

theorem insV_stays {d : Option Nat} {g : Option (Nat × Bool)} {k : K} (hk : k.turns = false) {r : AV × Heap × Nat} (h : insV G R s d g k = some r) : r.2.1 = s.hp ∧ r.2.2 = s.ct := by
  simp only [insV] at h
  split at h
  · exact step_stays hk h
  · simp at h; subst h; exact ⟨rfl, rfl⟩
  · simp at h

end

/- Equality. -/
mutual
theorem eqIV_sound : ∀ (x y : IV), eqIV x y = true → x = y
  | .bool a, y, h => by cases y <;> simp [eqIV] at h ⊢ <;> exact h
  | .int k a, y, h => by cases y <;> simp [eqIV] at h ⊢ <;> exact h
  | .str a, y, h => by cases y <;> simp [eqIV] at h ⊢ <;> exact h
  | .nilS, y, h => by cases y <;> simp [eqIV] at h ⊢
  | .emp, y, h => by cases y <;> simp [eqIV] at h ⊢
  | .nilP, y, h => by cases y <;> simp [eqIV] at h ⊢
  | .nilM, y, h => by cases y <;> simp [eqIV] at h ⊢
  | .nilF, y, h => by cases y <;> simp [eqIV] at h ⊢
  | .nilI, y, h => by cases y <;> simp [eqIV] at h ⊢
  | .lit t a n, y, h => by
    cases y <;> simp [eqIV] at h ⊢
    exact ⟨h.1.1, eqIVs_sound _ _ h.1.2, h.2⟩
  | .lp t a, y, h => by
    cases y <;> simp [eqIV] at h ⊢
    exact ⟨h.1, eqIVs_sound _ _ h.2⟩
  | .gp g o, y, h => by cases y <;> simp [eqIV] at h ⊢ <;> exact h
  | .clo f a, y, h => by
    cases y <;> simp [eqIV] at h ⊢
    exact ⟨h.1, eqIVs_sound _ _ h.2⟩
theorem eqIVs_sound : ∀ (x y : List IV), eqIVs x y = true → x = y
  | [], y, h => by cases y <;> simp [eqIVs] at h ⊢
  | x :: l, y, h => by
    cases y <;> simp [eqIVs] at h ⊢
    exact ⟨eqIV_sound _ _ h.1, eqIVs_sound _ _ h.2⟩
end

theorem eqL_sound {α : Type} {f : α → α → Bool} (hf : ∀ x y, f x y = true → x = y) : ∀ (x y : List α), eqL f x y = true → x = y
  | [], y, h => by cases y <;> simp [eqL] at h ⊢
  | x :: l, y, h => by
    cases y <;> simp [eqL] at h ⊢
    exact ⟨hf _ _ h.1, eqL_sound hf _ _ h.2⟩

theorem eqAR_sound (x y : AR) (h : eqAR x y = true) : x = y := by
  cases x <;> cases y <;> simp [eqAR] at h ⊢
  · exact eqIV_sound _ _ h
  · exact ⟨h.1.1, h.1.2, h.2⟩
  · exact ⟨h.1.1.1.1, h.1.1.1.2, h.1.1.2, h.1.2, h.2⟩
  · exact h

theorem eqAC_sound (x y : AC) (h : eqAC x y = true) : x = y := by
  cases x <;> cases y <;> simp [eqAC] at h ⊢
  · exact eqAR_sound _ _ h
  · exact ⟨h.1, eqL_sound eqAR_sound _ _ h.2⟩

theorem eqA1_sound (x y : A1) (h : eqA1 x y = true) : x = y := by
  cases x <;> cases y <;> simp [eqA1] at h ⊢
  · exact eqAC_sound _ _ h
  · exact eqL_sound eqAC_sound _ _ h

theorem eqAV_sound (x y : AV) (h : eqAV x y = true) : x = y := by
  cases x <;> cases y <;> simp [eqAV] at h ⊢
  · exact eqA1_sound _ _ h
  · exact eqL_sound eqA1_sound _ _ h

end Go.Abs
