/-
  The abstract machine beside Go's model: calls: what comes back.
-/
import Derived.Test.YtcbepglkfglclaaDoorHAbsJ
namespace Go.Abs
open Go.RowKit

theorem backAt_mem {pl : List (Nat × Nat × Nat)} {b c g : Nat} (h : backAt pl b = some (c, g)) : (b, c, g) ∈ pl := by
  induction pl with
  | nil => simp [backAt] at h
  | cons e l ih =>
    obtain ⟨k, c', g'⟩ := e
    simp only [backAt] at h
    split at h
    · rename_i e; subst e; simp at h; obtain ⟨rfl, rfl⟩ := h; exact .head _
    · exact .tail _ (ih h)

theorem backAt_none {pl : List (Nat × Nat × Nat)} {b : Nat} (h : backAt pl b = none) : ∀ e ∈ pl, e.1 ≠ b := by
  induction pl with
  | nil => simp
  | cons e l ih =>
    obtain ⟨k, c', g'⟩ := e
    simp only [backAt] at h
    split at h
    · simp at h
    · rename_i hne
      intro e he
      rcases List.mem_cons.1 he with rfl | he
      · exact hne
      · exact ih h e he

/-- What the way back needs: the new memory, beside the callee's. -/
structure Back (X X' : Cx) (E' E2 : Env) (pl : List (Nat × Nat × Nat)) (lent : Bool) : Prop where
  w : E2.w = E'.w
  at_ : ∀ k c g, backAt pl k = some (c, g) → E2.m c = E'.m k ∧ g < E2.ct
  ok0 : ∀ c, okc X' E' 0 c → okc X E2 0 c
  okt : lent = false → ∀ t c, okc X' E' t c → okc X E2 t c
  loc : ∀ b x, backAt pl b = none → E'.h.get b = some x → okc X E2 0 (E'.m b).1

section
variable {P : Program} {X X' : Cx} {E' E2 : Env} {pl : List (Nat × Nat × Nat)} {lent : Bool}

theorem backR_sound (hW : WR X' E') (hB : Back X X' E' E2 pl lent) {x : AR} {v : Value} {y : AR} (r : RR X' E' x v) (e : backR E'.h pl lent x = some y) : RR X E2 y v := by
  cases x with
  | i iv =>
    simp only [backR] at e
    split at e
    · simp at e
    · rename_i hl
      simp at e
      subst e
      show VR (okc X E2) E2.w.heap iv v
      rw [hB.w]
      cases hlent : lent with
      | false => exact VR.mono (fun t c _ h => ⟨hB.okt hlent t c h, rfl⟩) r
      | true =>
        simp [hlent] at hl
        exact VR.fresh (fun c _ h => hB.ok0 c h) r hl
  | ptr b g off =>
    simp only [backR] at e
    split at e
    · rename_i c g' hb
      split at e
      · rename_i hcur
        simp at e; subst e
        obtain ⟨h1, h2, h3⟩ := r
        obtain ⟨q1, q2⟩ := hB.at_ _ _ _ hb
        exact ⟨h1, q2, fun _ => by rw [q1]; exact h3 hcur⟩
      · simp at e
    · simp at e
  | map b g =>
    simp only [backR] at e
    split at e
    · rename_i c g' hb
      split at e
      · rename_i hcur
        simp at e; subst e
        obtain ⟨h1, h2, h3⟩ := r
        obtain ⟨q1, q2⟩ := hB.at_ _ _ _ hb
        exact ⟨h1, q2, fun _ => by rw [q1]; exact h3 hcur⟩
      · simp at e
    · simp at e
  | sl b g off sz len =>
    simp only [backR] at e
    split at e
    · rename_i c g' hb
      split at e
      · rename_i hcur
        simp at e; subst e
        obtain ⟨h1, h2, h3⟩ := r
        obtain ⟨q1, q2⟩ := hB.at_ _ _ _ hb
        exact ⟨h1, q2, fun _ => by rw [q1, hB.w]; exact h3 hcur⟩
      · simp at e
    · rename_i hb
      split at e
      · rename_i iv hiv
        split at e
        · simp at e
        · rename_i hl
          simp at e; subst e
          have h2 := rd_sound hW (fun b => (backAt pl b).isNone) 0 (fun t c => (t = 0 ∨ lent = false) → okc X E2 t c)
            (fun t c _ h hq => by
              rcases hq with rfl | hq
              · exact hB.ok0 c h
              · exact hB.okt hq t c h)
            (fun b x hq hg _ => hB.loc b x (by simpa using hq) hg) rdDepth (.r (.sl b g off sz len)) v iv r hiv
          show VR (okc X E2) E2.w.heap iv v
          rw [hB.w]
          cases hlent : lent with
          | false => exact VR.mono (fun t c _ h => ⟨h (.inr hlent), rfl⟩) h2
          | true =>
            simp [hlent] at hl
            exact VR.fresh (fun c _ h => h (.inl rfl)) h2 hl
      · simp at e

theorem backC_sound (hW : WR X' E') (hB : Back X X' E' E2 pl lent) {x : AC} {v : Value} {y : AC} (r : CC X' E' x v) (e : backC E'.h pl lent x = some y) : CC X E2 y v := by
  cases x with
  | r a =>
    simp only [backC] at e
    cases hq : backR E'.h pl lent a with
    | none => simp [hq] at e
    | some b => simp [hq] at e; subst e; exact backR_sound hW hB r hq
  | clo f caps =>
    simp only [backC] at e
    cases hq : traverse (backR E'.h pl lent) caps with
    | none => simp [hq] at e
    | some cs =>
      simp [hq] at e; subst e
      obtain ⟨ws, rfl, hr⟩ := r
      exact mkClo_sound (hr.of_traverse (fun _ _ _ r e => backR_sound hW hB r e) hq)

theorem back1_sound (hW : WR X' E') (hB : Back X X' E' E2 pl lent) {x : A1} {v : Value} {y : A1} (r : A1R X' E' x v) (e : back1 E'.h pl lent x = some y) : A1R X E2 y v := by
  cases x with
  | c a =>
    simp only [back1] at e
    cases hq : backC E'.h pl lent a with
    | none => simp [hq] at e
    | some b => simp [hq] at e; subst e; exact backC_sound hW hB r hq
  | agg xs =>
    simp only [back1] at e
    cases hq : traverse (backC E'.h pl lent) xs with
    | none => simp [hq] at e
    | some cs =>
      simp [hq] at e; subst e
      obtain ⟨ws, rfl, hr⟩ := r
      exact ⟨ws, rfl, hr.of_traverse (fun _ _ _ r e => backC_sound hW hB r e) hq⟩

theorem backB_gen {h : Heap} {g : Nat} {x y : Blk} (e : backB h pl lent g x = some y) : y.gen = g := by
  cases x with
  | cells g cs => simp only [backB] at e; cases hq : traverse (backC h pl lent) cs <;> simp [hq] at e; subst e; rfl
  | map g es k => simp only [backB] at e; cases hq : traverse (backEnt h pl lent) es <;> simp [hq] at e; subst e; rfl
  | iter g l p => simp [backB] at e; subst e; rfl

theorem backB_sound (hW : WR X' E') (hB : Back X X' E' E2 pl lent) {k c g : Nat} (hm : E2.m c = E'.m k) {x y : Blk} (r : BR X' E' k x) (e : backB E'.h pl lent g x = some y) : BR X E2 c y := by
  cases x with
  | cells g0 cs =>
    simp only [backB] at e
    cases hq : traverse (backC E'.h pl lent) cs with
    | none => simp [hq] at e
    | some cs' =>
      simp [hq] at e; subst e
      obtain ⟨cc, ee, fr, h1, h2, h3, h4⟩ := r
      refine ⟨cc, ee, fr, by rw [hm, hB.w]; exact h1, h2, by rw [hm, traverse_length hq]; exact h3, fun i z hi hz => ?_⟩
      rw [hm] at hi ⊢
      obtain ⟨z0, hz0, hzz⟩ := traverse_get hq i z hz
      obtain ⟨w, hw, hr⟩ := h4 i z0 hi hz0
      exact ⟨w, hw, backC_sound hW hB hr hzz⟩
  | map g0 es k0 =>
    simp only [backB] at e
    cases hq : traverse (backEnt E'.h pl lent) es with
    | none => simp [hq] at e
    | some es' =>
      simp [hq] at e; subst e
      obtain ⟨ces, h1, h2⟩ := r
      refine ⟨ces, by rw [hm, hB.w]; exact h1, h2.of_traverse (fun u w z hr hz => ?_) hq⟩
      unfold backEnt at hz
      split at hz
      · rename_i kk vv hk hv
        simp at hz; subst hz
        exact ⟨back1_sound hW hB hr.key hk, back1_sound hW hB hr.val hv, hr.born⟩
      · simp at hz
  | iter g0 l p =>
    simp [backB] at e; subst e
    obtain ⟨s, h1, h2⟩ := r
    exact ⟨s, by rw [hm, hB.w]; exact h1, h2⟩

theorem backH_other {h : Heap} : ∀ (l : List (Nat × Nat × Nat)) (hp hp' : Heap), backH h pl lent l hp = some hp' → ∀ b, (∀ e ∈ l, e.2.1 ≠ b) → hp'.get b = hp.get b
  | [], hp, hp', e, b, _ => by simp [backH] at e; rw [e]
  | (k, c, g) :: l, hp, hp', e, b, hb => by
    simp only [backH] at e
    split at e
    · split at e
      · rename_i y hy
        rw [backH_other l _ _ e b (fun e he => hb e (.tail _ he)), Heap.get_set, if_neg (fun q => hb _ (.head _) q.symm)]
      · simp at e
    · simp at e

theorem backH_at {h : Heap} : ∀ (l : List (Nat × Nat × Nat)) (hp hp' : Heap), backH h pl lent l hp = some hp' → (l.map (·.2.1)).Nodup → ∀ k c g, (k, c, g) ∈ l →
    ∃ x y, h.get k = some x ∧ backB h pl lent g x = some y ∧ hp'.get c = some y
  | [], _, _, _, _, _, _, _, hm => by simp at hm
  | (k0, c0, g0) :: l, hp, hp', e, hn, k, c, g, hm => by
    simp only [backH] at e
    split at e
    · rename_i x hx
      split at e
      · rename_i y hy
        simp only [List.map_cons, List.nodup_cons] at hn
        rcases List.mem_cons.1 hm with heq | hm
        · injection heq with h1 h2
          injection h2 with h2 h3
          subst h1; subst h2; subst h3
          refine ⟨x, y, hx, hy, ?_⟩
          rw [backH_other l _ _ e c (fun e he q => hn.1 (List.mem_map.2 ⟨e, he, q⟩)), Heap.get_set, if_pos rfl]
        · exact backH_at l _ _ e hn.2 k c g hm
      · simp at e
    · simp at e

end

theorem nodupB_nodup : ∀ {l : List Nat}, nodupB l = true → l.Nodup
  | [], _ => .nil
  | a :: l, e => by
    simp [nodupB] at e
    exact List.nodup_cons.2 ⟨e.1, nodupB_nodup e.2⟩

section
variable {P : Program} {X : Cx} {E E' : Env} {ids : List Nat} {bs : List Blk} {lent : Bool} {ad : List (Nat × Nat)} {hp' : Heap}

theorem places_mem {h hp : Heap} {ct k c g : Nat} (hm : (k, c, g) ∈ placesOf h hp ct ids ad) :
    (∃ i, k = PB + i ∧ ids[i]? = some c ∧ g = if h.cur (PB + i) = some 0 then (hp.cur c).getD ct else ct) ∨ ((k, c) ∈ ad ∧ g = ct) := by
  unfold placesOf at hm
  rcases List.mem_append.1 hm with hm | hm
  · obtain ⟨⟨b, i⟩, hbi, heq⟩ := List.mem_map.1 hm
    injection heq with h1 h2
    injection h2 with h2 h3
    subst h1; subst h2
    have := List.mem_zipIdx_iff_getElem?.1 hbi
    exact .inl ⟨i, rfl, by simpa using this, h3.symm⟩
  · obtain ⟨⟨k', c'⟩, hkc, heq⟩ := List.mem_map.1 hm
    injection heq with h1 h2
    injection h2 with h2 h3
    subst h1; subst h2
    exact .inr ⟨hkc, h3.symm⟩

theorem places_map {h hp : Heap} {ct : Nat} : (placesOf h hp ct ids ad).map (·.2.1) = ids ++ ad.map (·.2) := by
  unfold placesOf
  rw [List.map_append, List.map_map, List.map_map]
  congr 1
  have : ∀ (l : List Nat) (n : Nat), ((l.zipIdx n).map ((fun e : Nat × Nat × Nat => e.2.1) ∘ fun (b, i) => (PB + i, b, if h.cur (PB + i) = some 0 then (hp.cur b).getD ct else ct))) = l := by
    intro l
    induction l with
    | nil => intro n; rfl
    | cons a l ih => intro n; simp only [List.zipIdx_cons, List.map_cons, ih]; rfl
  exact this ids 0

theorem places_id {h hp : Heap} {ct i b : Nat} (hi : ids[i]? = some b) : ∃ g, (PB + i, b, g) ∈ placesOf h hp ct ids ad := by
  unfold placesOf
  exact ⟨_, List.mem_append.2 (.inl (List.mem_map.2 ⟨(b, i), List.mem_zipIdx_iff_getElem?.2 (by simpa using hi), rfl⟩))⟩

/-- THE CALLER'S WORLD BEHIND THE CALL. -/
theorem ret_wr (hW : WR X E) (hn : nodupB ids = true) (ho : handOver E.h ids = some bs) (hW' : WR (calleeX X E ids lent) E') (hx : Ext (calleeX X E ids lent) (calleeE E ids bs) E')
    (had : ad.all (fun p => decide (p.1 < PB) && (E.h.get p.2).isNone) = true) (hn1 : nodupB (ad.map (·.1)) = true) (hn2 : nodupB (ad.map (·.2)) = true)
    (hb : backH E'.h (placesOf E'.h E.h E.ct ids ad) lent (placesOf E'.h E.h E.ct ids ad) E.h = some hp') :
    ∃ E2, E2.w = E'.w ∧ E2.h = hp' ∧ E2.ct = E.ct + 1 ∧ WR X E2 ∧ Ext X E E2 ∧ E.w.heap.size ≤ E2.w.heap.size ∧ Back X (calleeX X E ids lent) E' E2 (placesOf E'.h E.h E.ct ids ad) lent := by
  generalize hpl : placesOf E'.h E.h E.ct ids ad = pl at hb
  have hmem : ∀ k c g, (k, c, g) ∈ pl → (∃ i, k = PB + i ∧ ids[i]? = some c ∧ g = if E'.h.cur (PB + i) = some 0 then (E.h.cur c).getD E.ct else E.ct) ∨ ((k, c) ∈ ad ∧ g = E.ct) := fun k c g h => by
    rw [← hpl] at h; exact places_mem h
  have hid : ∀ i b, ids[i]? = some b → ∃ g, (PB + i, b, g) ∈ pl := fun i b h => by rw [← hpl]; exact places_id h
  have hadm : ∀ k c, (k, c) ∈ ad → k < PB ∧ E.h.get c = none := fun k c h => by
    have := List.all_eq_true.1 had (k, c) h
    simpa using this
  have hlive : ∀ i b, ids[i]? = some b → ∃ x y, E.h.get b = some x ∧ toB E.h ids x = some y := fun i b h => by
    obtain ⟨y, hy⟩ := traverse_mem ho b (List.mem_of_getElem? h)
    split at hy
    · rename_i x hx; exact ⟨x, y, hx, hy⟩
    · simp at hy
  have hcn : (pl.map (·.2.1)).Nodup := by
    rw [← hpl, places_map]
    refine List.nodup_append.2 ⟨nodupB_nodup hn, nodupB_nodup hn2, fun a ha b hb2 q => ?_⟩
    subst q
    obtain ⟨⟨k, c⟩, hkc, rfl⟩ := List.mem_map.1 hb2
    obtain ⟨i, hi⟩ := List.mem_iff_getElem?.1 ha
    obtain ⟨x, _, hx, _⟩ := hlive i c hi
    rw [(hadm k c hkc).2] at hx
    simp at hx
  have hcu : ∀ k c g k' g', (k, c, g) ∈ pl → (k', c, g') ∈ pl → k = k' := by
    intro k c g k' g' h1 h2
    rcases hmem k c g h1 with ⟨i, rfl, hi, _⟩ | ⟨hka, _⟩ <;> rcases hmem k' c g' h2 with ⟨j, rfl, hj, _⟩ | ⟨hkb, _⟩
    · rw [nodupB_inj hn hi hj]
    · obtain ⟨x, _, hx, _⟩ := hlive i c hi
      rw [(hadm k' c hkb).2] at hx; simp at hx
    · obtain ⟨x, _, hx, _⟩ := hlive j c hj
      rw [(hadm k c hka).2] at hx; simp at hx
    · obtain ⟨i, hi⟩ := List.mem_iff_getElem?.1 hka
      obtain ⟨j, hj⟩ := List.mem_iff_getElem?.1 hkb
      have : i = j := nodupB_inj hn2 (b := c) (by simp [hi]) (by simp [hj])
      subst this
      rw [hi] at hj
      injection hj with hj
      injection hj
  have hku : ∀ k c g c' g', (k, c, g) ∈ pl → (k, c', g') ∈ pl → c = c' := by
    intro k c g c' g' h1 h2
    rcases hmem k c g h1 with ⟨i, rfl, hi, _⟩ | ⟨hka, _⟩ <;> rcases hmem _ c' g' h2 with ⟨j, hjk, hj, _⟩ | ⟨hkb, _⟩
    · have : i = j := by omega
      subst this
      rw [hi] at hj; injection hj
    · have := (hadm _ c' hkb).1; omega
    · have := (hadm k c hka).1; omega
    · obtain ⟨i, hi⟩ := List.mem_iff_getElem?.1 hka
      obtain ⟨j, hj⟩ := List.mem_iff_getElem?.1 hkb
      have : i = j := nodupB_inj hn1 (b := k) (by simp [hi]) (by simp [hj])
      subst this
      rw [hi] at hj
      injection hj with hj
      injection hj
  let m2 : Nat → Nat × Nat := fun b => match pl.find? (fun e => e.2.1 == b) with | some e => E'.m e.1 | none => E.m b
  have hm2 : ∀ k c g, (k, c, g) ∈ pl → m2 c = E'.m k := by
    intro k c g h
    simp only [m2]
    cases hf : pl.find? (fun e => e.2.1 == c) with
    | none => have := List.find?_eq_none.1 hf _ h; simp at this
    | some e =>
      obtain ⟨k', c', g'⟩ := e
      have h1 := List.find?_some hf
      have h2 := List.mem_of_find?_eq_some hf
      simp at h1
      subst h1
      simp only
      rw [hcu _ _ _ _ _ h2 h]
  have hm2' : ∀ b, (∀ e ∈ pl, e.2.1 ≠ b) → m2 b = E.m b := by
    intro b h
    simp only [m2]
    cases hf : pl.find? (fun e => e.2.1 == b) with
    | none => rfl
    | some e =>
      have h1 := List.find?_some hf
      exact absurd (by simpa using h1) (h e (List.mem_of_find?_eq_some hf))
  let E2 : Env := { h := hp', m := m2, ct := E.ct + 1, w := E'.w }
  have hat := backH_at pl _ _ hb hcn
  have hoth := backH_other pl _ _ hb
  have hsz : E.w.heap.size ≤ E'.w.heap.size := hW'.size
  -- what was not handed over stands still
  have hstill : ∀ c, c < E.w.heap.size → (¬ ∃ b, b ∈ ids ∧ (E.h.get b).isSome = true ∧ (E.m b).1 = c) → E'.w.heap[c]? = E.w.heap[c]? := fun c hc hA =>
    hW'.still c hc (by
      rintro ⟨k, i, b, _, h2, h3, h4⟩
      exact hA ⟨b, List.mem_of_getElem? h2, h3, h4⟩)
  -- where the callee's blocks lie
  have hloc : ∀ k x, E'.h.get k = some x → E.w.heap.size ≤ (E'.m k).1 ∨ ∃ i b, k = PB + i ∧ ids[i]? = some b ∧ (E'.m k).1 = (E.m b).1 := fun k x h => by
    rcases (hW'.blk k x h).2.2 with h1 | ⟨i, b, h1, h2, h3, h4⟩
    · exact .inl h1
    · exact .inr ⟨i, b, h1, h2, h4.symm⟩
  -- what lives behind
  have hlive2 : ∀ c, E2.live c → (∃ k c' g, (k, c', g) ∈ pl ∧ (E'.h.get k).isSome = true ∧ (E'.m k).1 = c) ∨ (∃ b, (∀ e ∈ pl, e.2.1 ≠ b) ∧ (E.h.get b).isSome = true ∧ (E.m b).1 = c) := by
    rintro c ⟨b, h1, h2⟩
    by_cases hp : ∃ e ∈ pl, e.2.1 = b
    · obtain ⟨⟨k, c', g⟩, he, hc'⟩ := hp
      simp at hc'
      subst hc'
      obtain ⟨x, y, q1, _, _⟩ := hat k c' g he
      have : m2 c' = E'.m k := hm2 k c' g he
      have h3 : (m2 c').1 = c := h2
      rw [this] at h3
      exact .inl ⟨k, c', g, he, by simp [q1], h3⟩
    · have hpn : ∀ e ∈ pl, e.2.1 ≠ b := fun e he q => hp ⟨e, he, q⟩
      have h3 : (m2 b).1 = c := h2
      rw [hm2' b hpn] at h3
      have h4 : (hp'.get b).isSome = true := h1
      rw [hoth b hpn] at h4
      exact .inr ⟨b, hpn, h4, h3⟩
  have hHlt : ∀ c, (X.H c).isSome = true → c < E.w.heap.size := fun c hH => by
    obtain ⟨o, ho⟩ := Option.isSome_iff_exists.1 hH
    exact (Array.getElem?_eq_some_iff.1 (hW.hid c o ho).1).1
  have hnotin : ∀ b, (∀ e ∈ pl, e.2.1 ≠ b) → b ∉ ids := fun b h hbi => by
    obtain ⟨i, hi⟩ := List.mem_iff_getElem?.1 hbi
    obtain ⟨g, hg⟩ := hid i b hi
    exact h _ hg rfl
  have hokold : ∀ t c, c < E.w.heap.size → okc X E t c → okc X E2 t c := by
    intro t c hc h
    rcases h with ⟨h1, h2⟩ | h
    · refine .inl ⟨h1, fun hl => ?_⟩
      rcases hl with hl | hH
      · rcases hlive2 c hl with ⟨k, c', g, he, hk, hkc⟩ | ⟨b, _, h3, h4⟩
        · obtain ⟨x, hxx⟩ := Option.isSome_iff_exists.1 hk
          rcases hloc k x hxx with h5 | ⟨i, b, _, hib, h5⟩
          · omega
          · obtain ⟨y, _, hy, _⟩ := hlive i b hib
            exact h2 (.inl ⟨b, by simp [hy], by omega⟩)
        · exact h2 (.inl ⟨b, h3, h4⟩)
      · exact h2 (.inr hH)
    · exact .inr h
  have hBack : Back X (calleeX X E ids lent) E' E2 pl lent := by
    refine ⟨rfl, fun k c g h => ?_, fun c h => ?_, fun hl t c h => ?_, fun b x hbn hg => ?_⟩
    · have hm := backAt_mem h
      refine ⟨hm2 k c g hm, ?_⟩
      show g < E.ct + 1
      rcases hmem k c g hm with ⟨i, _, hi, rfl⟩ | ⟨_, rfl⟩
      · split
        · obtain ⟨y, _, hy, _⟩ := hlive i c hi
          rw [Heap.cur_of_get hy]
          have := (hW.blk c y hy).2.1
          simp
          omega
        · omega
      · omega
    · rcases h with ⟨h1, h2⟩ | ⟨h1, _⟩
      · have h1 : E.w.heap.size ≤ c := h1
        refine .inl ⟨Nat.le_trans hW.size h1, fun hl => ?_⟩
        rcases hl with hl | hH
        · rcases hlive2 c hl with ⟨k, c', g, he, hk, hkc⟩ | ⟨b, _, h3, h4⟩
          · exact h2 (.inl ⟨k, hk, hkc⟩)
          · obtain ⟨y, hy⟩ := Option.isSome_iff_exists.1 h3
            have := hW.lt hy; omega
        · have := hHlt c hH; omega
      · exact absurd rfl h1
    · rcases h with ⟨h1, h2⟩ | ⟨h1, h2, h3, h4⟩
      · have h1 : E.w.heap.size ≤ c := h1
        refine .inl ⟨Nat.le_trans hW.size h1, fun hl => ?_⟩
        rcases hl with hl | hH
        · rcases hlive2 c hl with ⟨k, c', g, he, hk, hkc⟩ | ⟨b, _, h3, h4⟩
          · exact h2 (.inl ⟨k, hk, hkc⟩)
          · obtain ⟨y, hy⟩ := Option.isSome_iff_exists.1 h3
            have := hW.lt hy; omega
        · have := hHlt c hH; omega
      · rcases h4 with h4 | h4
        · rw [hl] at h4; simp at h4
        · rcases hokold 1 c h2 h4 with h5 | h5
          · exact .inl h5
          · exact .inr ⟨h1, h5.2⟩
    · have h1 : E.w.heap.size ≤ (E'.m b).1 := by
        rcases hloc b x hg with h | ⟨i, b0, rfl, hi, _⟩
        · exact h
        · obtain ⟨g, hgm⟩ := hid i b0 hi
          exact absurd rfl (backAt_none hbn _ hgm)
      refine .inl ⟨Nat.le_trans hW.size h1, fun hl => ?_⟩
      rcases hl with hl | hH
      · rcases hlive2 _ hl with ⟨k, c', g, he, hk, hkc⟩ | ⟨b2, _, h3, h4⟩
        · have := hW'.inj k b hk (by simp [hg]) hkc
          exact backAt_none hbn _ he this
        · obtain ⟨y, hy⟩ := Option.isSome_iff_exists.1 h3
          have := hW.lt hy; omega
      · have := hHlt _ hH; omega
  have hExt : Ext X E E2 := by
    refine ⟨Nat.le_succ _, fun b g hg hc => ?_, fun t c hc h => ⟨hokold t c hc h, hstill c hc (notA hW h)⟩⟩
    have hc : hp'.cur b = some g := hc
    by_cases hp : ∃ e ∈ pl, e.2.1 = b
    · obtain ⟨⟨k, c', g'⟩, he, hc'⟩ := hp
      simp at hc'
      subst hc'
      obtain ⟨x, y, q1, q2, q3⟩ := hat k c' g' he
      rw [Heap.cur_of_get q3, backB_gen q2] at hc
      simp at hc
      subst hc
      rcases hmem k c' g' he with ⟨i, rfl, hi, hgg⟩ | ⟨_, hgg⟩
      · split at hgg
        · rename_i hcur0
          obtain ⟨z, _, hz, _⟩ := hlive i c' hi
          rw [Heap.cur_of_get hz] at hgg
          simp at hgg
          obtain ⟨p1, p2, p3⟩ := hx.cur (PB + i) 0 (Nat.lt_succ_self _) hcur0
          have hmi : (calleeE E ids bs).m (PB + i) = E.m c' := calleeE_m hi
          rw [hmi] at p2 p3
          refine ⟨by rw [Heap.cur_of_get hz, hgg], ?_, p3⟩
          show m2 c' = E.m c'
          rw [hm2 _ _ _ he, p2]
        · omega
      · omega
    · have hpn : ∀ e ∈ pl, e.2.1 ≠ b := fun e he q => hp ⟨e, he, q⟩
      have hgb : hp'.get b = E.h.get b := hoth b hpn
      have hc2 : E.h.cur b = some g := by
        unfold Heap.cur at hc ⊢
        rw [← hgb]; exact hc
      refine ⟨hc2, hm2' b hpn, fun cc e fr hcc => ⟨cc, e, fr, ?_, rfl⟩⟩
      show E'.w.heap[_]? = _
      rw [hstill _ (Array.getElem?_eq_some_iff.1 hcc).1 ?_]
      · exact hcc
      · rintro ⟨b', hb', h3, h4⟩
        have hlb : (E.h.get b).isSome = true := by
          unfold Heap.cur at hc2
          cases hq : E.h.get b with
          | none => simp [hq] at hc2
          | some _ => rfl
        have := hW.inj b' b h3 hlb h4
        subst this
        exact hnotin b' hpn hb'
  refine ⟨E2, rfl, rfl, rfl, ?_, hExt, hsz, by rw [← hpl] at hBack; rw [← hpl]; exact hBack⟩
  refine ⟨fun b x hxx => ?_, fun b b' h1 h2 he => ?_, Nat.le_trans hW.size hsz, fun c hc hA => ?_, hW'.os.trans hW.os, hW'.tape.trans hW.tape, hW'.output.trans hW.output, hW.f1, hW.a0, fun c o hc => by
    obtain ⟨g1, g2, g3⟩ := hW.hid c o hc
    have hcs : c < E.w.heap.size := (Array.getElem?_eq_some_iff.1 g1).1
    refine ⟨by show E'.w.heap[c]? = _; rw [hstill c hcs (fun ⟨b, _, h3, h4⟩ => g3 ⟨b, h3, h4⟩)]; exact g1, g2, fun hl => ?_⟩
    rcases hlive2 c hl with ⟨k, c', g, he, hk, hkc⟩ | ⟨b, _, h3, h4⟩
    · obtain ⟨x, hxx⟩ := Option.isSome_iff_exists.1 hk
      rcases hloc k x hxx with h5 | ⟨i, b, _, hib, h5⟩
      · omega
      · obtain ⟨y, _, hy, _⟩ := hlive i b hib
        exact g3 ⟨b, by simp [hy], by omega⟩
    · exact g3 ⟨b, h3, h4⟩⟩
  · have hxx : hp'.get b = some x := hxx
    by_cases hp : ∃ e ∈ pl, e.2.1 = b
    · obtain ⟨⟨k, c', g'⟩, he, hc'⟩ := hp
      simp at hc'
      subst hc'
      obtain ⟨x0, y, q1, q2, q3⟩ := hat k c' g' he
      rw [q3] at hxx
      simp at hxx
      subst hxx
      refine ⟨backB_sound hW' hBack (hm2 _ _ _ he) (hW'.blk k x0 q1).1 q2, ?_, ?_⟩
      · rw [backB_gen q2]
        show g' < E.ct + 1
        rcases hmem k c' g' he with ⟨i, _, hi, hgg⟩ | ⟨_, hgg⟩
        · rw [hgg]
          split
          · obtain ⟨z, _, hz, _⟩ := hlive i c' hi
            rw [Heap.cur_of_get hz]
            have := (hW.blk c' z hz).2.1
            simp
            omega
          · omega
        · omega
      · show X.w0.heap.size ≤ (m2 c').1 ∨ X.A0 c' (m2 c').1
        rw [hm2 _ _ _ he]
        rcases hloc k x0 q1 with h5 | ⟨i, b0, hkk, hib, h5⟩
        · exact .inl (Nat.le_trans hW.size h5)
        · have : b0 = c' := by
            obtain ⟨g, hg⟩ := hid i b0 hib
            rw [← hkk] at hg
            exact hku _ _ _ _ _ hg he
          subst this
          obtain ⟨z, _, hz, _⟩ := hlive i b0 hib
          rw [h5]
          exact (hW.blk b0 z hz).2.2
    · have hpn : ∀ e ∈ pl, e.2.1 ≠ b := fun e he q => hp ⟨e, he, q⟩
      rw [hoth b hpn] at hxx
      obtain ⟨q1, q2, q3⟩ := hW.blk b x hxx
      have hmb : E2.m b = E.m b := hm2' b hpn
      refine ⟨q1.ext hExt hmb (hstill _ q1.get ?_), Nat.lt_of_lt_of_le q2 (Nat.le_succ _), by rw [hmb]; exact q3⟩
      rintro ⟨b', hb', h3, h4⟩
      have := hW.inj b' b h3 (by simp [hxx]) h4
      subst this
      exact hnotin b' hpn hb'
  · have key : ∀ b, (E2.h.get b).isSome = true → (∃ k g, (k, b, g) ∈ pl ∧ (E'.h.get k).isSome = true ∧ E2.m b = E'.m k) ∨ ((∀ e ∈ pl, e.2.1 ≠ b) ∧ (E.h.get b).isSome = true ∧ E2.m b = E.m b) := fun b h => by
      have h : (hp'.get b).isSome = true := h
      by_cases hp : ∃ e ∈ pl, e.2.1 = b
      · obtain ⟨⟨k, c', g'⟩, he, hc'⟩ := hp
        simp at hc'
        subst hc'
        obtain ⟨x0, y, q1, q2, q3⟩ := hat k c' g' he
        exact .inl ⟨k, g', he, by simp [q1], hm2 _ _ _ he⟩
      · have hpn : ∀ e ∈ pl, e.2.1 ≠ b := fun e he q => hp ⟨e, he, q⟩
        rw [hoth b hpn] at h
        exact .inr ⟨hpn, h, hm2' b hpn⟩
    have cross : ∀ k b g b2, (k, b, g) ∈ pl → (E'.h.get k).isSome = true → (∀ e ∈ pl, e.2.1 ≠ b2) → (E.h.get b2).isSome = true → (E'.m k).1 = (E.m b2).1 → False := fun k b g b2 he hk hp2 hb2 heq => by
      obtain ⟨x0, hx0⟩ := Option.isSome_iff_exists.1 hk
      obtain ⟨y, hy⟩ := Option.isSome_iff_exists.1 hb2
      rcases hloc k x0 hx0 with h5 | ⟨i, b0, hkk, hib, h5⟩
      · have := hW.lt hy; omega
      · obtain ⟨z, _, hz, _⟩ := hlive i b0 hib
        have := hW.inj b0 b2 (by simp [hz]) hb2 (by omega)
        subst this
        exact hnotin b0 hp2 (List.mem_of_getElem? hib)
    rcases key b h1 with ⟨k, g, he1, hk1, hm1⟩ | ⟨hp1, hb1, hm1⟩ <;> rcases key b' h2 with ⟨k', g', he2, hk2, hmm2⟩ | ⟨hp2, hb2, hmm2⟩
    · rw [hm1, hmm2] at he
      have := hW'.inj k k' hk1 hk2 he
      subst this
      exact hku _ _ _ _ _ he1 he2
    · rw [hm1, hmm2] at he
      exact (cross k b g b' he1 hk1 hp2 hb2 he).elim
    · rw [hm1, hmm2] at he
      exact (cross k' b' g' b he2 hk2 hp1 hb1 he.symm).elim
    · rw [hm1, hmm2] at he
      exact hW.inj b b' hb1 hb2 he
  · have hlt := Nat.lt_of_lt_of_le hc hW.size
    show E'.w.heap[c]? = _
    rw [hstill c hlt ?_]
    · exact hW.still c hc hA
    · rintro ⟨b, hb, h3, h4⟩
      obtain ⟨y, hy⟩ := Option.isSome_iff_exists.1 h3
      rcases (hW.blk b y hy).2.2 with h5 | h5
      · omega
      · rw [h4] at h5; exact hA ⟨b, h5⟩

end
end Go.Abs
