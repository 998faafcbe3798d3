/-
  The abstract machine beside Go's model: memory that grows and is written; reading out; what an operation must show.
-/
import Derived.Test.YtcbepglkfglclaaDoorHAbsB
namespace Go.Abs
open Go.RowKit

theorem BR.get {X : Cx} {E : Env} {b : Nat} {x : Blk} (h : BR X E b x) : (E.m b).1 < E.w.heap.size := by
  cases x with
  | cells g cs => obtain ⟨cc, e, fr, h, _⟩ := h; exact (Array.getElem?_eq_some_iff.1 h).1
  | map g es k => obtain ⟨ces, h, _⟩ := h; exact (Array.getElem?_eq_some_iff.1 h).1
  | iter g s p => obtain ⟨bs, h, _⟩ := h; exact (Array.getElem?_eq_some_iff.1 h).1

/-- A block that a step left alone. -/
theorem BR.ext {X : Cx} {E E' : Env} (h : Ext X E E') {b : Nat} {x : Blk} (hm : E'.m b = E.m b) (hw : E'.w.heap[(E.m b).1]? = E.w.heap[(E.m b).1]?) (r : BR X E b x) : BR X E' b x := by
  cases x with
  | cells g cs =>
    obtain ⟨cc, e, fr, h1, h2, h3, h4⟩ := r
    refine ⟨cc, e, fr, by rw [hm, hw]; exact h1, h2, by rw [hm]; exact h3, fun i x hi hx => ?_⟩
    rw [hm] at hi ⊢
    obtain ⟨v, q1, q2⟩ := h4 i x hi hx
    exact ⟨v, q1, q2.ext h⟩
  | map g es k =>
    obtain ⟨ces, h1, h2⟩ := r
    exact ⟨ces, by rw [hm, hw]; exact h1, h2.mono fun _ _ => EntR.ext h⟩
  | iter g s p =>
    obtain ⟨bs, h1, h2⟩ := r
    exact ⟨bs, by rw [hm, hw]; exact h1, h2⟩

theorem WR.lt {X : Cx} {E : Env} (h : WR X E) {b : Nat} {x : Blk} (e : E.h.get b = some x) : (E.m b).1 < E.w.heap.size := (h.blk b x e).1.get

/-- ONE BLOCK IS PUT: made, written, or moved. 'c0': the block of the world that may have turned. -/
structure Put (X : Cx) (E E' : Env) (b : Nat) (x : Blk) (c0 : Nat) : Prop where
  h : E'.h = E.h.set b x
  ct : E.ct ≤ E'.ct
  gen : x.gen < E'.ct
  m : ∀ b', b' ≠ b → E'.m b' = E.m b'
  size : E.w.heap.size ≤ E'.w.heap.size
  heap : ∀ k, k < E.w.heap.size → k ≠ c0 → E'.w.heap[k]? = E.w.heap[k]?
  c0 : E.w.heap.size ≤ c0 ∨ ((E.h.get b).isSome = true ∧ c0 = (E.m b).1)
  at_ : E.w.heap.size ≤ (E'.m b).1 ∨ ((E.h.get b).isSome = true ∧ (E'.m b).1 = (E.m b).1)
  old : x.gen < E.ct → E.h.cur b = some x.gen ∧ E'.m b = E.m b ∧
    ∀ cc e fr, E.w.heap[(E.m b).1]? = some (.cells cc e fr) → ∃ cc' e' fr', E'.w.heap[(E.m b).1]? = some (.cells cc' e' fr') ∧ cc'.size = cc.size
  os : E'.w.os = E.w.os
  tape : E'.w.tape = E.w.tape
  output : E'.w.output = E.w.output

theorem Put.ext {X : Cx} {E E' : Env} {b : Nat} {x : Blk} {c0 : Nat} (p : Put X E E' b x c0) (hW : WR X E) : Ext X E E' := by
  refine ⟨p.ct, fun b1 g hg hc => ?_, fun t c hc ho => ?_⟩
  · rw [p.h, Heap.cur_set] at hc
    by_cases e : b1 = b
    · subst e
      simp at hc
      subst hc
      exact p.old hg
    · rw [if_neg e] at hc
      refine ⟨hc, p.m b1 e, fun cc e' fr hcc => ⟨cc, e', fr, ?_, rfl⟩⟩
      rw [p.heap _ (Array.getElem?_eq_some_iff.1 hcc).1 ?_]
      · exact hcc
      · rcases p.c0 with h | ⟨h1, h2⟩
        · have := (Array.getElem?_eq_some_iff.1 hcc).1; omega
        · rw [h2]
          intro h3
          refine e (hW.inj b1 b ?_ h1 h3)
          unfold Heap.cur at hc
          cases hgb : E.h.get b1 with
          | none => simp [hgb] at hc
          | some _ => rfl
  · have hne : c ≠ c0 := by
      rcases p.c0 with h | ⟨h1, h2⟩
      · omega
      · rintro rfl
        obtain ⟨y, hy⟩ := Option.isSome_iff_exists.1 h1
        rcases ho with ⟨q1, q2⟩ | ⟨q1, q2⟩
        · exact q2 (.inl ⟨b, h1, h2.symm⟩)
        · have := hW.f1 _ q2
          rcases (hW.blk b y hy).2.2 with h3 | h3
          · rw [← h2] at h3; omega
          · rw [← h2] at h3; exact this.2 ⟨b, h3⟩
    refine ⟨?_, p.heap c hc hne⟩
    rcases ho with ⟨q1, q2⟩ | q
    · refine .inl ⟨q1, ?_⟩
      rintro (⟨b2, h1, h2⟩ | hH)
      · rw [p.h, Heap.get_set] at h1
        by_cases e : b2 = b
        · subst e
          rcases p.at_ with h3 | ⟨h3, h4⟩
          · omega
          · exact q2 (.inl ⟨b2, h3, by omega⟩)
        · rw [if_neg e] at h1
          rw [p.m b2 e] at h2
          exact q2 (.inl ⟨b2, h1, h2⟩)
      · exact q2 (.inr hH)
    · exact .inr q

theorem Put.wr {X : Cx} {E E' : Env} {b : Nat} {x : Blk} {c0 : Nat} (p : Put X E E' b x c0) (hW : WR X E) (hb : BR X E' b x) : WR X E' := by
  have hE := p.ext hW
  refine ⟨fun b1 y hy => ?_, fun b1 b2 h1 h2 he => ?_, Nat.le_trans hW.size p.size, fun c hc hA => ?_, p.os.trans hW.os, p.tape.trans hW.tape, p.output.trans hW.output, hW.f1, hW.a0, fun c o hc => by
    obtain ⟨g1, g2, g3⟩ := hW.hid c o hc
    have hcs : c < E.w.heap.size := (Array.getElem?_eq_some_iff.1 g1).1
    refine ⟨?_, g2, ?_⟩
    · rw [p.heap c hcs ?_]
      · exact g1
      · rcases p.c0 with h | ⟨h1, h2⟩
        · omega
        · rintro rfl; exact g3 ⟨b, h1, h2.symm⟩
    · rintro ⟨b2, h1, h2⟩
      rw [p.h, Heap.get_set] at h1
      by_cases e : b2 = b
      · subst e
        rcases p.at_ with h3 | ⟨h3, h4⟩
        · omega
        · exact g3 ⟨b2, h3, by omega⟩
      · rw [if_neg e] at h1
        rw [p.m b2 e] at h2
        exact g3 ⟨b2, h1, h2⟩⟩
  · rw [p.h, Heap.get_set] at hy
    by_cases e : b1 = b
    · subst e
      simp at hy
      subst hy
      refine ⟨hb, p.gen, ?_⟩
      rcases p.at_ with h3 | ⟨h3, h4⟩
      · exact .inl (Nat.le_trans hW.size h3)
      · obtain ⟨y, hy⟩ := Option.isSome_iff_exists.1 h3
        rw [h4]
        exact (hW.blk b1 y hy).2.2
    · rw [if_neg e] at hy
      obtain ⟨q1, q2, q3⟩ := hW.blk b1 y hy
      refine ⟨q1.ext hE (p.m b1 e) (p.heap _ q1.get ?_), Nat.lt_of_lt_of_le q2 p.ct, by rw [p.m b1 e]; exact q3⟩
      rcases p.c0 with h | ⟨h1, h2⟩
      · have := q1.get; omega
      · rw [h2]; intro h3; exact e (hW.inj b1 b (by simp [hy]) h1 h3)
  · rw [p.h, Heap.get_set] at h1 h2
    by_cases e1 : b1 = b
    · by_cases e2 : b2 = b
      · rw [e1, e2]
      · rw [if_neg e2] at h2
        subst e1
        rw [p.m b2 e2] at he
        obtain ⟨y, hy⟩ := Option.isSome_iff_exists.1 h2
        rcases p.at_ with h3 | ⟨h3, h4⟩
        · have := hW.lt hy; omega
        · exact hW.inj b1 b2 h3 h2 (by omega)
    · rw [if_neg e1] at h1
      by_cases e2 : b2 = b
      · subst e2
        rw [p.m b1 e1] at he
        obtain ⟨y, hy⟩ := Option.isSome_iff_exists.1 h1
        rcases p.at_ with h3 | ⟨h3, h4⟩
        · have := hW.lt hy; omega
        · exact hW.inj b1 b2 h1 h3 (by omega)
      · rw [if_neg e2] at h2
        rw [p.m b1 e1, p.m b2 e2] at he
        exact hW.inj b1 b2 h1 h2 he
  · have hlt := Nat.lt_of_lt_of_le hc hW.size
    rw [p.heap c hlt ?_]
    · exact hW.still c hc hA
    · rcases p.c0 with h | ⟨h1, h2⟩
      · omega
      · rintro rfl
        obtain ⟨y, hy⟩ := Option.isSome_iff_exists.1 h1
        rcases (hW.blk b y hy).2.2 with h3 | h3
        · omega
        · rw [← h2] at h3; exact hA ⟨b, h3⟩

/-- The world under the same memory: only the count of the draws has turned, or blocks have come that nobody names. -/
structure Same (E E' : Env) : Prop where
  h : E'.h = E.h
  ct : E'.ct = E.ct
  m : E'.m = E.m
  size : E.w.heap.size ≤ E'.w.heap.size
  heap : ∀ k, k < E.w.heap.size → E'.w.heap[k]? = E.w.heap[k]?
  os : E'.w.os = E.w.os
  tape : E'.w.tape = E.w.tape
  output : E'.w.output = E.w.output

theorem Same.ext {X : Cx} {E E' : Env} (p : Same E E') : Ext X E E' := by
  refine ⟨by rw [p.ct]; exact Nat.le_refl _, fun b g hg hc => ?_, fun t c hc ho => ?_⟩
  · rw [p.h] at hc
    refine ⟨hc, by rw [p.m], fun cc e fr hcc => ⟨cc, e, fr, ?_, rfl⟩⟩
    rw [p.heap _ (Array.getElem?_eq_some_iff.1 hcc).1]; exact hcc
  · refine ⟨?_, p.heap c hc⟩
    rcases ho with ⟨q1, q2⟩ | q
    · refine .inl ⟨q1, ?_⟩
      rintro (⟨b2, h1, h2⟩ | hH)
      · rw [p.h] at h1; rw [p.m] at h2
        exact q2 (.inl ⟨b2, h1, h2⟩)
      · exact q2 (.inr hH)
    · exact .inr q

theorem Same.wr {X : Cx} {E E' : Env} (p : Same E E') (hW : WR X E) : WR X E' := by
  refine ⟨fun b1 y hy => ?_, fun b1 b2 h1 h2 he => ?_, Nat.le_trans hW.size p.size, fun c hc hA => ?_, p.os.trans hW.os, p.tape.trans hW.tape, p.output.trans hW.output, hW.f1, hW.a0, fun c o hc => by
    obtain ⟨g1, g2, g3⟩ := hW.hid c o hc
    refine ⟨by rw [p.heap c (Array.getElem?_eq_some_iff.1 g1).1]; exact g1, g2, ?_⟩
    rintro ⟨b2, h1, h2⟩
    rw [p.h] at h1; rw [p.m] at h2
    exact g3 ⟨b2, h1, h2⟩⟩
  · rw [p.h] at hy
    obtain ⟨q1, q2, q3⟩ := hW.blk b1 y hy
    exact ⟨q1.ext p.ext (by rw [p.m]) (p.heap _ q1.get), by rw [p.ct]; exact q2, by rw [p.m]; exact q3⟩
  · rw [p.h] at h1 h2; rw [p.m] at he; exact hW.inj b1 b2 h1 h2 he
  · rw [p.heap c (Nat.lt_of_lt_of_le hc hW.size)]; exact hW.still c hc hA

/-- Blocks dropped. -/
theorem Drop.ext (X : Cx) (E : Env) (bs : List Nat) : Ext X E { E with h := delAll E.h bs } := by
  refine ⟨Nat.le_refl _, fun b g hg hc => ⟨?_, rfl, fun cc e fr hcc => ⟨cc, e, fr, hcc, rfl⟩⟩, fun t c hc ho => ⟨?_, rfl⟩⟩
  · simp only [Heap.cur, Heap.get_delAll] at hc ⊢
    split at hc
    · simp at hc
    · exact hc
  · rcases ho with ⟨q1, q2⟩ | q
    · refine .inl ⟨q1, ?_⟩
      rintro (⟨b2, h1, h2⟩ | hH)
      · simp only [Heap.get_delAll] at h1
        split at h1
        · simp at h1
        · exact q2 (.inl ⟨b2, h1, h2⟩)
      · exact q2 (.inr hH)
    · exact .inr q

theorem Drop.wr {X : Cx} {E : Env} (bs : List Nat) (hW : WR X E) : WR X { E with h := delAll E.h bs } := by
  refine ⟨fun b1 y hy => ?_, fun b1 b2 h1 h2 he => ?_, hW.size, hW.still, hW.os, hW.tape, hW.output, hW.f1, hW.a0, fun c o hc => by
    obtain ⟨g1, g2, g3⟩ := hW.hid c o hc
    refine ⟨g1, g2, ?_⟩
    rintro ⟨b2, h1, h2⟩
    simp only [Heap.get_delAll] at h1
    split at h1
    · simp at h1
    · exact g3 ⟨b2, h1, h2⟩⟩
  · simp only [Heap.get_delAll] at hy
    split at hy
    · simp at hy
    · obtain ⟨q1, q2, q3⟩ := hW.blk b1 y hy
      exact ⟨q1.ext (Drop.ext X E bs) rfl rfl, q2, q3⟩
  · simp only [Heap.get_delAll] at h1 h2
    split at h1
    · simp at h1
    · split at h2
      · simp at h2
      · exact hW.inj b1 b2 h1 h2 he

/-- READING OUT: what is read is told by the same value, wherever literals may lie in the blocks that were entered. -/
theorem rd_sound {X : Cx} {E : Env} (hW : WR X E) (q : Nat → Bool) (t : Nat) (p : Nat → Nat → Prop) (hp : ∀ t c, c < E.w.heap.size → okc X E t c → p t c)
    (hq : ∀ b x, q b = true → E.h.get b = some x → p t (E.m b).1) : ∀ (n : Nat) (x : AC) (v : Value) (iv : IV), CC X E x v → rd q E.h t n x = some iv → VR p E.w.heap iv v := by
  have hmono : ∀ {y : IV} {v : Value}, VR (okc X E) E.w.heap y v → VR p E.w.heap y v := fun r => r.mono fun t c hc ho => ⟨hp t c hc ho, rfl⟩
  have hcaps : ∀ (caps : List AR) (ivs : List IV) (vs : List Value), All2 (RR X E) caps vs → traverse inlR caps = some ivs → All2 (VR p E.w.heap) ivs vs := by
    intro caps ivs vs h e
    refine h.of_traverse (fun a b c r e => ?_) e
    cases a <;> simp [inlR] at e
    subst e
    exact hmono r
  intro n
  induction n with
  | zero =>
    intro x v iv h e
    cases x with
    | r a => cases a with
      | i y => simp [rd] at e; subst e; exact hmono h
      | _ => simp [rd] at e
    | clo f caps => simp [rd] at e
  | succ n ih =>
    intro x v iv h e
    cases x with
    | r a => cases a with
      | i y => simp [rd] at e; subst e; exact hmono h
      | ptr b g off =>
        simp only [rd] at e
        split at e
        · rename_i hqb
          split at e
          · simp at e
          · rename_i cs hrow
            split at e
            · simp at e
            · rename_i vs hvs
              simp at e
              subst e
              obtain ⟨hget, hcur⟩ := Heap.row_eq hrow
              obtain ⟨h1, h2, h3⟩ := h
              obtain ⟨h4, rfl⟩ := h3 hcur
              obtain ⟨⟨cc, e, fr, r1, r2, r3, r4⟩, _, _⟩ := hW.blk b _ hget
              have htl := traverse_length hvs
              have hfit : cs.length - off ≤ cc.size - (off - (E.m b).2) := by
                rcases Nat.lt_or_ge off cs.length with hlt | hge
                · obtain ⟨v', q1, _⟩ := r4 (cs.length - 1) cs[cs.length - 1] (by omega) (by simp)
                  have := (Array.getElem?_eq_some_iff.1 q1).1
                  omega
                · omega
              refine .lp t vs (E.m b).1 (off - (E.m b).2) cc e fr ((cc.toList.drop (off - (E.m b).2)).take (cs.length - off)) (hq b _ hqb hget) r1 ?_ ?_ ?_
              · rw [htl]; simp; omega
              · intro i v hv
                rw [List.getElem?_take] at hv
                split at hv
                · rw [List.getElem?_drop] at hv; simpa using hv
                · simp at hv
              · intro i x v hx hv
                obtain ⟨y, hy, hry⟩ := traverse_get hvs i x hx
                rw [List.getElem?_drop] at hy
                rw [List.getElem?_take] at hv
                split at hv
                · rw [List.getElem?_drop] at hv
                  obtain ⟨v', q1, q2⟩ := r4 (off + i) y (by omega) hy
                  have : off + i - (E.m b).2 = off - (E.m b).2 + i := by omega
                  rw [this] at q1
                  have hv' : v' = v := by
                    have h9 : cc[off - (E.m b).2 + i]? = some v := by simpa using hv
                    rw [q1] at h9; simpa using h9
                  subst hv'
                  exact ih y v' x q2 hry
                · simp at hv
        · simp at e
      | map => simp [rd] at e
      | sl b g off sz len =>
        simp only [rd] at e
        split at e
        · rename_i hqb
          split at e
          · simp at e
          · rename_i cs hrow
            split at e
            · rename_i hlen
              split at e
              · simp at e
              · rename_i vs hvs
                simp at e
                subst e
                obtain ⟨hget, hcur⟩ := Heap.row_eq hrow
                obtain ⟨h1, h2, h3⟩ := h
                obtain ⟨h4, h5⟩ := h3 hcur
                obtain ⟨⟨cc, e, fr, r1, r2, r3, r4⟩, _, _⟩ := hW.blk b _ hget
                rcases h5 with ⟨cap, rfl, h6, cs', e', fr', h7, h8⟩ | ⟨rfl, a, rfl⟩
                · rw [r1] at h7
                  have hcc : cc = cs' := by injection h7 with h7; injection h7
                  subst hcc
                  have hl : ((cs.drop off).take (len * sz)).length = len * sz := by simp; omega
                  have htl := traverse_length hvs
                  have hfit : off - (E.m b).2 + len * sz ≤ cc.size := by
                    rw [← h8]
                    have : len * sz ≤ cap * sz := Nat.mul_le_mul_right sz h6
                    omega
                  refine .lit t vs len (E.m b).1 (off - (E.m b).2) cap cc e fr ((cc.toList.drop (off - (E.m b).2)).take (len * sz)) (hq b _ hqb hget) r1 ?_ ?_ ?_ h6
                  · rw [htl, hl]; simp; omega
                  · intro i v hv
                    rw [List.getElem?_take] at hv
                    split at hv
                    · rw [List.getElem?_drop] at hv; simpa using hv
                    · simp at hv
                  · intro i x v hx hv
                    obtain ⟨y, hy, hry⟩ := traverse_get hvs i x hx
                    rw [List.getElem?_take] at hy hv
                    split at hy
                    · rename_i hi
                      rw [if_pos hi] at hv
                      rw [List.getElem?_drop] at hy hv
                      obtain ⟨v', q1, q2⟩ := r4 (off + i) y (by omega) hy
                      have : off + i - (E.m b).2 = off - (E.m b).2 + i := by omega
                      rw [this] at q1
                      have hv' : v' = v := by
                        have h9 : cc[off - (E.m b).2 + i]? = some v := by simpa using hv
                        rw [q1] at h9; simpa using h9
                      subst hv'
                      exact ih y v' x q2 hry
                    · simp at hy
                · simp at hvs
                  simp [traverse] at hvs
                  subst hvs
                  exact .lit0 t 0 0 a (Nat.le_refl _)
            · simp at e
        · simp at e
    | clo f caps =>
      obtain ⟨vs, rfl, r⟩ := h
      simp only [rd] at e
      split at e
      · simp at e
      · rename_i ivs hivs
        simp at e
        subst e
        have h2 := hcaps caps ivs vs r hivs
        refine .clo f ivs vs h2.length fun i x v hx hv => ?_
        obtain ⟨b, hb, hr⟩ := h2.get i x hx
        rw [hv] at hb
        simp at hb
        subst hb
        exact hr

/-- WHAT AN OPERATION MUST SHOW. -/
def OpOk (P : Program) (X : Cx) (E : Env) (o : Oper) (ρ : Operand → Value) (v : AV) (h' : Heap) (ct' : Nat) : Prop :=
  ∃ E' nx, (execOp ρ o).run P E.w = .ok nx E'.w ∧ E'.h = h' ∧ E'.ct = ct' ∧ WR X E' ∧ Ext X E E' ∧ E.w.heap.size ≤ E'.w.heap.size ∧
    ((∃ x, nx = .value x ∧ AVR X E' v x) ∨ (nx = .skip ∧ v = .und))

theorem OpOk.pure {P : Program} {X : Cx} {E : Env} {o : Oper} {ρ : Operand → Value} {v : AV} {x : Value} (hW : WR X E)
    (hr : (execOp ρ o).run P E.w = .ok (.value x) E.w) (hv : AVR X E v x) : OpOk P X E o ρ v E.h E.ct :=
  ⟨E, .value x, hr, rfl, rfl, hW, Ext.refl X E, Nat.le_refl _, .inl ⟨x, rfl, hv⟩⟩

theorem OpOk.put {P : Program} {X : Cx} {E E' : Env} {o : Oper} {ρ : Operand → Value} {v : AV} {x : Value} {b : Nat} {y : Blk} {c0 : Nat} (hW : WR X E)
    (p : Put X E E' b y c0) (hr : (execOp ρ o).run P E.w = .ok (.value x) E'.w) (hb : BR X E' b y) (hv : AVR X E' v x) : OpOk P X E o ρ v (E.h.set b y) E'.ct :=
  ⟨E', .value x, hr, p.h, rfl, p.wr hW hb, p.ext hW, p.size, .inl ⟨x, rfl, hv⟩⟩

theorem OpOk.putU {P : Program} {X : Cx} {E E' : Env} {o : Oper} {ρ : Operand → Value} {b : Nat} {y : Blk} {c0 : Nat} (hW : WR X E)
    (p : Put X E E' b y c0) (hr : (execOp ρ o).run P E.w = .ok .skip E'.w) (hb : BR X E' b y) : OpOk P X E o ρ .und (E.h.set b y) E'.ct :=
  ⟨E', .skip, hr, p.h, rfl, p.wr hW hb, p.ext hW, p.size, .inr ⟨rfl, rfl⟩⟩

/-- A NEW BLOCK. -/
def Env.new (E : Env) (d : Nat) (x : Blk) (w : World) : Env := { h := E.h.set d x, m := fun b => if b = d then (E.w.heap.size, 0) else E.m b, ct := E.ct + 1, w }

theorem Put.new (X : Cx) (E : Env) (d : Nat) (x : Blk) (w : World) (hg : x.gen = E.ct) (hs : E.w.heap.size ≤ w.heap.size) (hh : ∀ k, k < E.w.heap.size → w.heap[k]? = E.w.heap[k]?)
    (ho : w.os = E.w.os) (ht : w.tape = E.w.tape) (hu : w.output = E.w.output) : Put X E (E.new d x w) d x E.w.heap.size where
  h := rfl
  ct := Nat.le_succ _
  gen := by rw [hg]; exact Nat.lt_succ_self _
  m := fun b' hb => by simp [Env.new, hb]
  size := hs
  heap := fun k hk _ => hh k hk
  c0 := .inl (Nat.le_refl _)
  at_ := .inl (by simp [Env.new])
  old := fun h => by omega
  os := ho
  tape := ht
  output := hu

end Go.Abs
