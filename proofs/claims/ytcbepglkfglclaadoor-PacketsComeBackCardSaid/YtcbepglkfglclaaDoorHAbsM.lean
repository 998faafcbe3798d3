/-
  The abstract machine beside Go's model: regions, code, functions.
-/
import Derived.Test.YtcbepglkfglclaaDoorHAbsL
namespace Go.Abs
open Go.RowKit

/-- The state beside the frame and the world. -/
structure Rel (X : Cx) (E : Env) (s : St) (a : Act) : Prop where
  h : E.h = s.hp
  ct : E.ct = s.ct
  wr : WR X E
  tr : TR X E s a

def okGuard (ops : Array Oper) : Option (Nat × Bool) → Option (Nat × Bool) → Bool
  | none, none => true
  | some (j, b), some (t, c) => b == c && (ops[j]?).bind (·.dst) == some t
  | _, _ => false

def okIns (P : Program) (ops : Array Oper) (i : Nat) : Ins → Bool
  | .op d g k => match ops[i]? with
    | some o => o.dst == d && okGuard ops o.guard g && okK P o k
    | none => false
  | _ => false

/-- The operations in their order, with what is only told between them. -/
def okInsL (P : Program) (ops : Array Oper) : List Ins → Nat → Bool
  | [], i => i == ops.size
  | .kill _ _ :: l, i => okInsL P ops l i
  | .frz _ :: l, i => okInsL P ops l i
  | .op d g k :: l, i => okIns P ops i (.op d g k) && okInsL P ops l (i + 1)

section
variable {P : Program} {X : Cx} {E E' : Env} {s s' : St} {a : Act} {G : Nat → List IV} {R : Run}

theorem TR.ext (h : TR X E s a) (e : Ext X E E') (ht : s'.tm = s.tm) : TR X E' s' a :=
  ⟨h.defers, by rw [ht]; exact h.size, fun i v hv => (h.at_ i v (by rw [← ht]; exact hv)).ext e⟩

theorem TR.put (h : TR X E s a) (dst : Option Nat) {v : AV} {x : Value} (hv : AVR X E v x) : TR X E (s.put dst v) (a.put dst x) := by
  cases dst with
  | none => exact h
  | some d =>
    refine ⟨h.defers, by simp [St.put, Act.put, h.size], fun i w hw => ?_⟩
    simp only [St.put] at hw
    by_cases e : i = d
    · subst e
      have hlt : i < s.tm.length := by
        have := (List.getElem?_eq_some_iff.1 hw).1; simpa using this
      rw [List.getElem?_set_self hlt] at hw
      simp at hw
      subst hw
      have : i < a.tmps.size := by rw [h.size]; exact hlt
      simp [Act.put, Array.getD, this, hv]
    · rw [List.getElem?_set_ne (Ne.symm e)] at hw
      have := h.at_ i w hw
      have hne : d ≠ i := Ne.symm e
      have : (a.put (some d) x).tmps.getD i undef = a.tmps.getD i undef := by
        simp [Act.put, Array.getD_eq_getD_getElem?, Array.getElem?_setIfInBounds_ne hne]
      rw [this]
      assumption

theorem want_sound (h : TR X E s a) {ops : Array Oper} {o : Oper} {g : Option (Nat × Bool)} (hg : okGuard ops o.guard g = true) {b : Bool} (hw : want s g = some b) : Region.wanted o (yielded ops a.tmps) = b := by
  unfold okGuard at hg
  split at hg
  · rename_i e
    simp [want] at hw
    subst hw
    simp [Region.wanted, e]
  · rename_i j c t c' e
    simp at hg
    obtain ⟨rfl, hd⟩ := hg
    simp only [want] at hw
    have key : ∀ v, s.get t = v → v ≠ .und → AVR X E v (a.tmps.getD t undef) := fun v hv hne => by
      unfold St.get at hv
      rw [List.getD_eq_getElem?_getD] at hv
      cases hq : s.tm[t]? with
      | none => rw [hq] at hv; simp at hv; exact absurd hv.symm hne
      | some w => rw [hq] at hv; simp at hv; subst hv; exact h.at_ t w hq
    split at hw
    · rename_i c0 hc0
      simp at hw
      subst hw
      have r := key _ hc0 (by simp)
      have r2 : VR _ _ _ _ := r
      generalize hq : a.tmps.getD t undef = q at r2
      cases r2
      have hlt : t < a.tmps.size := by
        rcases Nat.lt_or_ge t a.tmps.size with hlt | hge
        · exact hlt
        · simp [Array.getD, Nat.not_lt.2 hge, undef] at hq
      have hq2 : a.tmps[t]? = some (.bool c0) := by
        simp [Array.getD, hlt] at hq
        simp [hlt, hq]
      simp [Region.wanted, e, yielded, hd, hq2]
    · rename_i hc0
      simp at hw
      subst hw
      have r : a.tmps.getD t undef = undef := key _ hc0 (by simp)
      simp only [Region.wanted, e, yielded, hd, Option.bind_some]
      have hq2 : ∀ b, a.tmps[t]? ≠ some (.bool b) := fun b hb => by
        simp [Array.getD_eq_getD_getElem?, hb, undef] at r
      cases hq : a.tmps[t]? with
      | none => rfl
      | some w =>
        cases w with
        | bool b => exact absurd hq (hq2 b)
        | _ => rfl
    · simp at hw
  · simp at hg

theorem put_ne {d : Option Nat} {x : Value} {t : Nat} (h : d ≠ some t) : (a.put d x).tmps.getD t undef = a.tmps.getD t undef := by
  cases d with
  | none => rfl
  | some d =>
    have hne : d ≠ t := fun e => h (by rw [e])
    simp [Act.put, Array.getD_eq_getD_getElem?, Array.getElem?_setIfInBounds_ne hne]

/-- One operation of a region, with its guard. -/
theorem ins_op (hR : RunOk P G R) (hG : GOk X G) (hr : Rel X E s a) {ops : Array Oper} {i : Nat} {d : Option Nat} {g : Option (Nat × Bool)} {k : K} (hk : okIns P ops i (.op d g k) = true)
    (hs : insI G R s (.op d g k) = some s') {next : Act → World → Prop} {Q : Exit → Act → World → Prop}
    (hn : ∀ E' a', Rel X E' s' a' → Ext X E E' → E.w.heap.size ≤ E'.w.heap.size → (∀ t, d ≠ some t → a'.tmps.getD t undef = a.tmps.getD t undef) → next a' E'.w) : wpOp P ops Q i next a E.w := by
  unfold okIns at hk
  split at hk
  · rename_i d' g' k' heq
    injection heq with h1 h2 h3
    subst h1; subst h2; subst h3
    unfold wpOp
    split at hk
    · rename_i o ho
      simp at hk
      obtain ⟨⟨rfl, hg⟩, hk⟩ := hk
      simp only [insI] at hs
      split at hs
      · rename_i r hV
        simp at hs
        subst hs
        obtain ⟨v, h, c⟩ := r
        simp only [insV] at hV
        split at hV
        · rename_i hw
          have hwant := want_sound hr.tr hg hw
          simp only [ho, hwant, if_true]
          refine .inl (opK_sound hR hr.wr hG hr.tr hr.h hr.ct hk hV next Q ?_)
          intro E' x e1 e2 e3 e4 e5 e6
          refine hn E' _ ⟨?_, ?_, e3, TR.put (s := { s with hp := h, ct := c }) (hr.tr.ext e4 rfl) _ e6⟩ e4 e5 fun t ht => put_ne ht
          · cases o.dst <;> simpa [St.put, St.with] using e1
          · cases o.dst <;> simpa [St.put, St.with] using e2
        · rename_i hw
          have hwant := want_sound hr.tr hg hw
          simp at hV
          obtain ⟨rfl, rfl, rfl⟩ := hV
          simp only [ho, hwant, Bool.false_eq_true, if_false]
          refine hn E _ ⟨?_, ?_, hr.wr, TR.put hr.tr _ rfl⟩ (Ext.refl X E) (Nat.le_refl _) fun t ht => put_ne ht
          · cases o.dst <;> simpa [St.put, St.with] using hr.h
          · cases o.dst <;> simpa [St.put, St.with] using hr.ct
        · simp at hV
      · simp at hs
    · simp at hk
  · rename_i hne
    exact (hne _ _ _ rfl).elim

theorem kill_tm (h : TR X E s a) : ∀ (ts : List Nat) (l : List AV), l.length = s.tm.length → (∀ (i : Nat) (v : AV), l[i]? = some v → AVR X E v (a.tmps.getD i undef)) →
    (ts.foldl (fun l t => l.set t .und) l).length = s.tm.length ∧ ∀ (i : Nat) (v : AV), (ts.foldl (fun l t => l.set t .und) l)[i]? = some v → AVR X E v (a.tmps.getD i undef)
  | [], l, h1, h2 => ⟨h1, h2⟩
  | t :: ts, l, h1, h2 => kill_tm h ts (l.set t .und) (by simpa using h1) fun i v hv => by
      by_cases e : i = t
      · subst e
        have hlt : i < l.length := by have := (List.getElem?_eq_some_iff.1 hv).1; simpa using this
        rw [List.getElem?_set_self hlt] at hv
        simp at hv
        subst hv
        trivial
      · rw [List.getElem?_set_ne (Ne.symm e)] at hv
        exact h2 i v hv

/-- What is only told: slots forgotten, blocks dropped, values frozen. -/
theorem ins_ghost (hr : Rel X E s a) {x : Ins} (hx : x.isOp = false) (hs : insI G R s x = some s') : ∃ E', E'.w = E.w ∧ Rel X E' s' a ∧ Ext X E E' := by
  cases x with
  | op => simp [Ins.isOp] at hx
  | kill ts bs =>
    simp [insI] at hs
    subst hs
    have hE := Drop.ext X E bs
    obtain ⟨h1, h2⟩ := kill_tm (hr.tr.ext (s' := s) hE rfl) ts s.tm rfl (hr.tr.ext (s' := s) hE rfl).at_
    exact ⟨{ E with h := delAll E.h bs }, rfl, ⟨by simp [hr.h], hr.ct, Drop.wr bs hr.wr, ⟨hr.tr.defers, by rw [hr.tr.size]; exact h1.symm, h2⟩⟩, hE⟩
  | frz t =>
    simp only [insI] at hs
    split at hs
    · rename_i a1 ha1
      generalize hbs : (refDeep s.hp 3 (a1.cells.flatMap (refC true))).filter (fun b => decide (b < PB)) = bs at hs
      have hbPB : ∀ b ∈ bs, b < PB := fun b hb => by
        rw [← hbs] at hb
        have := (List.mem_filter.1 hb).2
        simpa using this
      have hE := Drop.ext X E bs
      have hW' := Drop.wr bs hr.wr
      have hv : A1R X E a1 (a.tmps.getD t undef) := by
        unfold St.get at ha1
        rw [List.getD_eq_getElem?_getD] at ha1
        cases hq : s.tm[t]? with
        | none => rw [hq] at ha1; simp at ha1
        | some w => rw [hq] at ha1; simp at ha1; have := hr.tr.at_ t w hq; rw [ha1] at this; exact this
      have hrd : ∀ (x : AC) (v : Value) (iv : IV), CC X E x v → rd (fun b => bs.contains b) s.hp 0 rdDepth x = some iv → VR (okc X { E with h := delAll E.h bs }) E.w.heap iv v := fun x v iv h e => by
        rw [← hr.h] at e
        refine rd_sound hr.wr _ 0 _ (fun t c hc h => (hE.ok t c hc h).1) (fun b y hb hg => ?_) rdDepth x v iv h e
        have hb : b ∈ bs := by simpa using hb
        refine .inl ⟨?_, ?_⟩
        · rcases (hr.wr.blk b y hg).2.2 with h1 | h1
          · exact h1
          · have := (hr.wr.a0 b _ h1).1; have := hbPB b hb; omega
        · rintro (⟨b2, h1, h2⟩ | hH)
          · simp only [Heap.get_delAll] at h1
            split at h1
            · simp at h1
            · rename_i hnb
              have := hr.wr.inj b2 b h1 (by simp [hg]) h2
              subst this
              exact hnb hb
          · obtain ⟨o, ho⟩ := Option.isSome_iff_exists.1 hH
            exact (hr.wr.hid _ o ho).2.2 ⟨b, by simp [hg], rfl⟩
      have hput : ∀ (w : A1), A1R X { E with h := delAll E.h bs } w (a.tmps.getD t undef) → TR X { E with h := delAll E.h bs } { s with tm := s.tm.set t (.v w), hp := delAll s.hp bs } a := fun w hw => by
        have h0 := hr.tr.ext (s' := s) hE rfl
        refine ⟨h0.defers, by simpa using h0.size, fun i v hv => ?_⟩
        simp only at hv
        by_cases e : i = t
        · subst e
          have hlt : i < s.tm.length := by have := (List.getElem?_eq_some_iff.1 hv).1; simpa using this
          rw [List.getElem?_set_self hlt] at hv
          simp at hv
          subst hv
          exact hw
        · rw [List.getElem?_set_ne (Ne.symm e)] at hv
          exact h0.at_ i v hv
      split at hs
      · rename_i vs xs hvs
        simp at hs
        subst hs
        obtain ⟨ws, hq, hrr⟩ := hv
        refine ⟨{ E with h := delAll E.h bs }, rfl, ⟨by simp [hr.h], hr.ct, hW', hput (.agg (vs.map I)) ⟨ws, hq, ?_⟩⟩, hE⟩
        exact (hrr.of_traverse (fun x v iv h e => hrd x v iv h e) hvs).map I fun _ _ r => r
      · rename_i v0 x0 hvs
        simp at hs
        subst hs
        have hv : CC X E x0 _ := hv
        simp only [A1.cells, traverse] at hvs
        split at hvs
        · simp at hvs
        · rename_i iv hiv
          simp at hvs
          subst hvs
          exact ⟨{ E with h := delAll E.h bs }, rfl, ⟨by simp [hr.h], hr.ct, hW', hput (.c (I iv)) (hrd _ _ _ hv hiv)⟩, hE⟩
      · simp at hs
    · simp at hs

/-- A REGION WHOSE ORDER IS THE TEXT'S. -/
theorem insL_sound (hR : RunOk P G R) (hG : GOk X G) {ops : Array Oper} {Q : Exit → Act → World → Prop} : ∀ (l : List Ins) (i : Nat) (s : St) (E : Env) (a : Act), okInsL P ops l i = true → i ≤ ops.size → insL G R l s = some s' → Rel X E s a →
    (∀ E' a', Rel X E' s' a' → Ext X E E' → E.w.heap.size ≤ E'.w.heap.size → Q .normal a' E'.w) → wpOps P ops Q ((List.range (ops.size - i)).map (i + ·)) a E.w
  | [], i, s, E, a, hk, hi, hs, hr, hQ => by
    simp [okInsL] at hk
    simp [insL] at hs
    subst hs
    subst hk
    simp [wpOps]
    exact hQ E a hr (Ext.refl X E) (Nat.le_refl _)
  | x :: l, i, s, E, a, hk, hi, hs, hr, hQ => by
    simp only [insL] at hs
    split at hs
    · rename_i s1 hs1
      cases x with
      | op d g k =>
        simp [okInsL] at hk
        have hlt : i < ops.size := by
          rcases Nat.lt_or_ge i ops.size with h | h
          · exact h
          · have := hk.1
            simp [okIns, Array.getElem?_eq_none h] at this
        have hrng : (List.range (ops.size - i)).map (i + ·) = i :: (List.range (ops.size - (i + 1))).map (i + 1 + ·) := by
          have : ops.size - i = (ops.size - (i + 1)) + 1 := by omega
          rw [this, List.range_succ_eq_map]
          simp only [List.map_cons, List.map_map, Nat.add_zero]
          congr 1
          apply List.map_congr_left
          intro j _
          simp
          omega
        rw [hrng, wpOps_cons]
        refine ins_op hR hG hr hk.1 hs1 fun E' a' h1 h2 h3 _ => ?_
        exact insL_sound hR hG l (i + 1) s1 E' a' hk.2 hlt hs h1 fun E'' a'' g1 g2 g3 => hQ E'' a'' g1 (h2.trans g2 h3) (Nat.le_trans h3 g3)
      | kill ts bs =>
        obtain ⟨E', h1, h2, h3⟩ := ins_ghost hr rfl hs1
        rw [← h1]
        exact insL_sound hR hG l i s1 E' a (by simpa [okInsL] using hk) hi hs h2 fun E'' a'' g1 g2 g3 => hQ E'' a'' g1 (h3.trans g2 (by rw [h1]; exact Nat.le_refl _)) (by rw [← h1]; exact g3)
      | frz t =>
        obtain ⟨E', h1, h2, h3⟩ := ins_ghost hr rfl hs1
        rw [← h1]
        exact insL_sound hR hG l i s1 E' a (by simpa [okInsL] using hk) hi hs h2 fun E'' a'' g1 g2 g3 => hQ E'' a'' g1 (h3.trans g2 (by rw [h1]; exact Nat.le_refl _)) (by rw [← h1]; exact g3)
    · simp at hs

theorem ghosts_sound : ∀ (l : List Ins) (s : St) (E : Env), l.all (fun x => !x.isOp) = true → insL G R l s = some s' → Rel X E s a → ∃ E', E'.w = E.w ∧ Rel X E' s' a ∧ Ext X E E'
  | [], s, E, _, hs, hr => by simp [insL] at hs; subst hs; exact ⟨E, rfl, hr, Ext.refl X E⟩
  | x :: l, s, E, hk, hs, hr => by
    simp only [insL] at hs
    simp at hk
    split at hs
    · rename_i s1 hs1
      obtain ⟨E1, h1, h2, h3⟩ := ins_ghost hr (by simpa using hk.1) hs1
      obtain ⟨E2, g1, g2, g3⟩ := ghosts_sound l s1 E1 (by simpa using hk.2) hs h2
      exact ⟨E2, g1.trans h1, g2, h3.trans g3 (by rw [h1]; exact Nat.le_refl _)⟩
    · simp at hs

end

end Go.Abs
