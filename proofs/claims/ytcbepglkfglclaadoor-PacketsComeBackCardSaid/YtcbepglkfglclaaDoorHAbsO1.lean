/-
  The abstract machine beside Go's model: blocks that a drawn region lays, unknown to memory until they are written and told in place.
-/
import Derived.Test.YtcbepglkfglclaaDoorHAbsO
namespace Go.Abs
open Go.RowKit

/-- The same with other hidden blocks. -/
def Cx.hide (X : Cx) (H : Nat → Option Obj) : Cx := { X with H := H }

/-- What is kept where the hidden blocks turn. -/
structure ExtH (X X' : Cx) (E E' : Env) : Prop where
  h : E'.h = E.h
  m : E'.m = E.m
  ct : E'.ct = E.ct
  live : ∀ c, E.live c → E'.w.heap[c]? = E.w.heap[c]?
  ok : ∀ t c, c < E.w.heap.size → okc X E t c → okc X' E' t c ∧ E'.w.heap[c]? = E.w.heap[c]?

theorem isSome_cur {h : Heap} {b g : Nat} (e : h.cur b = some g) : (h.get b).isSome = true := by
  unfold Heap.cur at e
  cases hq : h.get b with
  | none => rw [hq] at e; simp at e
  | some x => rfl

section
variable {X X' : Cx} {E E' : Env}

theorem RR.extH (h : ExtH X X' E E') {a : AR} {v : Value} (r : RR X E a v) : RR X' E' a v := by
  cases a with
  | i x => exact VR.mono h.ok r
  | ptr b g off =>
    obtain ⟨h1, h2, h3⟩ := r
    refine ⟨h1, by rw [h.ct]; exact h2, fun hc => ?_⟩
    rw [h.h] at hc; rw [h.m]; exact h3 hc
  | map b g =>
    obtain ⟨h1, h2, h3⟩ := r
    refine ⟨h1, by rw [h.ct]; exact h2, fun hc => ?_⟩
    rw [h.h] at hc; rw [h.m]; exact h3 hc
  | sl b g off sz len =>
    obtain ⟨h1, h2, h3⟩ := r
    refine ⟨h1, by rw [h.ct]; exact h2, fun hc => ?_⟩
    rw [h.h] at hc; rw [h.m]
    obtain ⟨q4, q5⟩ := h3 hc
    refine ⟨q4, ?_⟩
    rcases q5 with ⟨cap, q5, q6, cs, e, fr, q7, q8⟩ | q5
    · exact .inl ⟨cap, q5, q6, cs, e, fr, by rw [h.live _ ⟨b, isSome_cur hc, rfl⟩]; exact q7, q8⟩
    · exact .inr q5

theorem CC.extH (h : ExtH X X' E E') {a : AC} {v : Value} (r : CC X E a v) : CC X' E' a v := by
  cases a with
  | r a => exact RR.extH h r
  | clo f caps =>
    obtain ⟨vs, e, r⟩ := r
    exact ⟨vs, e, r.mono fun _ _ => RR.extH h⟩

theorem A1R.extH (h : ExtH X X' E E') {a : A1} {v : Value} (r : A1R X E a v) : A1R X' E' a v := by
  cases a with
  | c a => exact CC.extH h r
  | agg xs =>
    obtain ⟨vs, e, r⟩ := r
    exact ⟨vs, e, r.mono fun _ _ => CC.extH h⟩

theorem AVR.extH (h : ExtH X X' E E') {a : AV} {v : Value} (r : AVR X E a v) : AVR X' E' a v := by
  cases a with
  | und => trivial
  | skp => exact r
  | v a => exact A1R.extH h r
  | tup l =>
    obtain ⟨vs, e, r⟩ := r
    exact ⟨vs, e, r.mono fun _ _ => A1R.extH h⟩

theorem EntR.extH (h : ExtH X X' E E') {a : Ent} {v : MapEntry} (r : EntR X E a v) : EntR X' E' a v :=
  ⟨r.key.extH h, r.val.extH h, r.born⟩

theorem BR.extH (h : ExtH X X' E E') {b : Nat} {x : Blk} (hb : (E.h.get b).isSome = true) (r : BR X E b x) : BR X' E' b x := by
  have hl := h.live _ ⟨b, hb, rfl⟩
  cases x with
  | cells g cs =>
    obtain ⟨cc, e, fr, h1, h2, h3, h4⟩ := r
    refine ⟨cc, e, fr, by rw [h.m, hl]; exact h1, h2, by rw [h.m]; exact h3, fun i x hi hx => ?_⟩
    rw [h.m] at hi
    obtain ⟨v, hv, hr⟩ := h4 i x hi hx
    exact ⟨v, by rw [h.m]; exact hv, hr.extH h⟩
  | map g es clock =>
    obtain ⟨ces, h1, h2⟩ := r
    exact ⟨ces, by rw [h.m, hl]; exact h1, h2.mono fun _ _ => EntR.extH h⟩
  | iter g s pos =>
    obtain ⟨bs, h1, h2⟩ := r
    exact ⟨bs, by rw [h.m, hl]; exact h1, h2⟩

theorem ExtH.live' (h : ExtH X X' E E') (c : Nat) : E'.live c ↔ E.live c := by
  unfold Env.live
  rw [h.h, h.m]

theorem WR.extH {H' : Nat → Option Obj} (hW : WR X E) (h : ExtH X (X.hide H') E E') (hsz : E.w.heap.size ≤ E'.w.heap.size) (hst : ∀ c, c < X.w0.heap.size → E'.w.heap[c]? = E.w.heap[c]?)
    (ho : E'.w.os = E.w.os) (ht : E'.w.tape = E.w.tape) (hu : E'.w.output = E.w.output) (hid : ∀ c o, H' c = some o → E'.w.heap[c]? = some o ∧ X.w0.heap.size ≤ c ∧ ¬ E'.live c) : WR (X.hide H') E' := by
  refine ⟨fun b x hx => ?_, fun b b' h1 h2 h3 => ?_, Nat.le_trans hW.size hsz, fun c hc hA => (hst c hc).trans (hW.still c hc hA), ho.trans hW.os, ht.trans hW.tape, hu.trans hW.output, hW.f1, hW.a0, hid⟩
  · rw [h.h] at hx
    obtain ⟨h1, h2, h3⟩ := hW.blk b x hx
    exact ⟨h1.extH h (by simp [hx]), by rw [h.ct]; exact h2, by rw [h.m]; exact h3⟩
  · rw [h.h] at h1 h2; rw [h.m] at h3
    exact hW.inj b b' h1 h2 h3

/-- From a region's begin. -/
theorem Ext.stepH {E0 : Env} (h : Ext X E0 E) (hh : E'.h = E.h) (hm : E'.m = E.m) (hc : E'.ct = E.ct) (hl : ∀ c, E.live c → E'.w.heap[c]? = E.w.heap[c]?) (ho : ∀ c, c < E0.w.heap.size → E'.w.heap[c]? = E.w.heap[c]?) : Ext X E0 E' := by
  refine ⟨by rw [hc]; exact h.ct, fun b g hg hcur => ?_, fun t c hlt hok => ?_⟩
  · rw [hh] at hcur
    obtain ⟨q1, q2, q3⟩ := h.cur b g hg hcur
    refine ⟨q1, by rw [hm]; exact q2, fun cc e fr hcc => ?_⟩
    obtain ⟨cc', e', fr', r1, r2⟩ := q3 cc e fr hcc
    refine ⟨cc', e', fr', ?_, r2⟩
    rw [hl _ ⟨b, isSome_cur hcur, by rw [q2]⟩]; exact r1
  · obtain ⟨q1, q2⟩ := h.ok t c hlt hok
    refine ⟨?_, (ho c hlt).trans q2⟩
    rcases q1 with ⟨p1, p2⟩ | p
    · refine .inl ⟨p1, fun k => p2 ?_⟩
      rcases k with ⟨b, k1, k2⟩ | k
      · rw [hh] at k1; rw [hm] at k2
        exact .inl ⟨b, k1, k2⟩
      · exact .inr k
    · exact .inr p

/-- An operation under hidden blocks, from a region's begin. -/
theorem Ext.transH {E0 : Env} {H : Nat → Option Obj} (h : Ext X E0 E) (k : Ext (X.hide H) E E') (hs : E0.w.heap.size ≤ E.w.heap.size) (hH : ∀ c o, H c = some o → X.H c = some o ∨ E0.w.heap.size ≤ c) (hb : ∀ c o, X.H c = some o → H c = some o) : Ext X E0 E' := by
  refine ⟨Nat.le_trans h.ct k.ct, fun b g hg hc => ?_, fun t c hlt ho => ?_⟩
  · obtain ⟨q1, q2, q3⟩ := k.cur b g (Nat.lt_of_lt_of_le hg h.ct) hc
    obtain ⟨p1, p2, p3⟩ := h.cur b g hg q1
    refine ⟨p1, q2.trans p2, fun cc e fr hcc => ?_⟩
    obtain ⟨cc', e', fr', r1, r2⟩ := p3 cc e fr hcc
    rw [p2] at q3
    obtain ⟨cc'', e'', fr'', r3, r4⟩ := q3 cc' e' fr' r1
    exact ⟨cc'', e'', fr'', r3, r4.trans r2⟩
  · obtain ⟨q1, q2⟩ := h.ok t c hlt ho
    have q1' : okc (X.hide H) E t c := by
      rcases q1 with ⟨p1, p2⟩ | p
      · refine .inl ⟨p1, fun k => p2 ?_⟩
        rcases k with k | k
        · exact .inl k
        · obtain ⟨o, ho⟩ := Option.isSome_iff_exists.1 k
          rcases hH c o ho with r | r
          · exact .inr (by rw [r]; rfl)
          · omega
      · exact .inr p
    obtain ⟨p1, p2⟩ := k.ok t c (Nat.lt_of_lt_of_le hlt hs) q1'
    refine ⟨?_, p2.trans q2⟩
    rcases p1 with ⟨r1, r2⟩ | r
    · refine .inl ⟨r1, fun k => r2 ?_⟩
      rcases k with k | k
      · exact .inl k
      · obtain ⟨o, ho⟩ := Option.isSome_iff_exists.1 k
        exact .inr (by show (H c).isSome = true; rw [hb c o ho]; rfl)
    · exact .inr r
end

/-- The type's zero value has so many cells. -/
def galT (P : Program) (ty n : Nat) : Bool := match P.info? ty with
  | some i => match i.zero with
    | some z => z.cells.size == n
    | none => false
  | none => false

section
variable {P : Program} {X : Cx} {E : Env} {s : St} {a : Act} {o : Oper} {ops : Array Oper} {i : Nat} {H : Nat → Option Obj} {next : Act → World → Prop} {Q : Exit → Act → World → Prop}

theorem traverse_cellI {p : Nat → Nat → Prop} {h : Array Obj} : ∀ {X : Cx} {E : Env} {cs : List AC} {vs : List Value} {is : List IV}, p = okc X E → h = E.w.heap → All2 (CC X E) cs vs → traverse cellI cs = some is → All2 (VR p h) is vs := by
  intro X E cs vs is hp hh h e
  subst hp; subst hh
  refine h.of_traverse (fun x v iv r e => ?_) e
  cases x with
  | r y =>
    cases y <;> simp [cellI] at e
    subst e; exact r
  | clo => simp [cellI] at e

/-- A block is laid. -/
theorem gal_op (hr : Rel (X.hide H) E s a) {ty t n : Nat} (ho : ops[i]? = some o) (hg : o.guard = none) (hd : o.dst = some t) (hop : o.op = .alloc ty) (hz : galT P ty n = true) (hu : s.get t = .und)
    (hn : ∀ (cs : Array Value) (e : TypeId) (E' : Env), E' = { E with w := E.w.alloc (.cells cs e) } → cs.size = n → E'.w.heap = E.w.heap.push (.cells cs e (0, 0)) →
      Rel (X.hide fun k => if k = E.w.heap.size then some (.cells cs e (0, 0)) else H k) E' s (a.put (some t) (.pointer (some ⟨E.w.heap.size, 0, none⟩))) → next (a.put (some t) (.pointer (some ⟨E.w.heap.size, 0, none⟩))) E'.w) :
    wpOp P ops Q i next a E.w := by
  unfold galT at hz
  split at hz
  · rename_i inf hi
    split at hz
    · rename_i z hzz
      have hzn : z.cells.size = n := by simpa using hz
      unfold wpOp
      have hw : Region.wanted o (yielded ops a.tmps) = true := by simp [Region.wanted, hg]
      simp only [ho, hw, if_true]
      refine .inl ?_
      unfold Oper.wp
      have hrun : (execOp a.eval o).run P E.w = .ok (.value (.pointer (some ⟨E.w.heap.size, 0, none⟩))) (E.w.alloc (.cells z.cells ty)) := by
        simp [execOp, hop, Instr.alloc, zeroValue, typeInfo, hi, hzz, newVar, newRow]
      rw [hrun, Oper.upon_value, hd]
      have hheap : (E.w.alloc (.cells z.cells ty)).heap = E.w.heap.push (.cells z.cells ty (0, 0)) := rfl
      refine hn z.cells ty { E with w := E.w.alloc (.cells z.cells ty) } rfl hzn hheap ?_
      have hpush : ∀ k, k < E.w.heap.size → (E.w.alloc (.cells z.cells ty)).heap[k]? = E.w.heap[k]? := fun k hk => by rw [hheap, Array.getElem?_push, if_neg (by omega)]
      have hlive : ∀ c, E.live c → c < E.w.heap.size := fun c ⟨b, h1, h2⟩ => by
        obtain ⟨y, hy⟩ := Option.isSome_iff_exists.1 h1
        have := hr.wr.lt hy
        omega
      have hE : ExtH (X.hide H) ((X.hide H).hide fun k => if k = E.w.heap.size then some (.cells z.cells ty (0, 0)) else H k) E { E with w := E.w.alloc (.cells z.cells ty) } := by
        refine ⟨rfl, rfl, rfl, fun c hc => hpush c (hlive c hc), fun t c hc hok => ⟨?_, hpush c hc⟩⟩
        rcases hok with ⟨p1, p2⟩ | p
        · refine .inl ⟨p1, fun k => p2 ?_⟩
          rcases k with k | k
          · exact .inl k
          · refine .inr ?_
            have : ((fun k => if k = E.w.heap.size then some (Obj.cells z.cells ty (0, 0)) else H k) c).isSome = true := k
            simp only [if_neg (show ¬ c = E.w.heap.size by omega)] at this
            exact this
        · exact .inr p
      refine ⟨hr.h, hr.ct, hr.wr.extH hE (by simp [hheap]) (fun c hc => hpush c (Nat.lt_of_lt_of_le hc hr.wr.size)) rfl rfl rfl fun c o' hc => ?_, ⟨hr.tr.defers, by simp [Act.put, hr.tr.size], fun j v hv => ?_⟩⟩
      · have _hz := trivial
        split at hc
        · rename_i e
          subst e
          simp at hc
          subst hc
          exact ⟨by rw [hheap, Array.getElem?_push]; simp, hr.wr.size, fun k => absurd (hlive _ k) (Nat.lt_irrefl _)⟩
        · obtain ⟨g1, g2, g3⟩ := hr.wr.hid c o' hc
          exact ⟨by rw [hpush c (Array.getElem?_eq_some_iff.1 g1).1]; exact g1, g2, g3⟩
      · by_cases e : j = t
        · subst e
          have : v = .und := by
            unfold St.get at hu
            rw [List.getD_eq_getElem?_getD, hv] at hu
            simpa using hu
          subst this
          trivial
        · have := (hr.tr.at_ j v hv).extH hE
          have e2 : (a.put (some t) (.pointer (some ⟨E.w.heap.size, 0, none⟩))).tmps.getD j undef = a.tmps.getD j undef := by
            simp [Act.put, Array.getD_eq_getD_getElem?, Array.getElem?_setIfInBounds_ne (Ne.symm e)]
          rw [e2]
          exact this
    · simp at hz
  · simp at hz

/-- A hidden block is written, and told. -/
theorem gst_op (hr : Rel (X.hide H) E s a) {ty t n c : Nat} {agg : Bool} {x : Operand} {y : Opd} {cs : Array Value} {e : TypeId} {w : A1} {is : List IV} (ho : ops[i]? = some o) (hg : o.guard = none) (hd : o.dst = none) (hop : o.op = .store ty (.tmp t) x)
    (hx : okOpd x y = true) (hty : tyOk P ty n agg = true) (hp : a.tmps.getD t undef = .pointer (some ⟨c, 0, none⟩)) (hH : H c = some (.cells cs e (0, 0))) (hcs : cs.size = n) (hy : ev s y = .v w) (hw : w.cells.length = n) (hi : traverse cellI w.cells = some is)
    (hn : ∀ (E' : Env), E'.h = E.h → E'.m = E.m → E'.ct = E.ct → (∀ k, k ≠ c → E'.w.heap[k]? = E.w.heap[k]?) → E'.w.heap.size = E.w.heap.size → ¬ E.live c → X.w0.heap.size ≤ c →
      Rel (X.hide fun k => if k = c then none else H k) E' (s.put (some t) (V (.lp 0 is))) a → next a E'.w) :
    wpOp P ops Q i next a E.w := by
  unfold wpOp
  have hwant : Region.wanted o (yielded ops a.tmps) = true := by simp [Region.wanted, hg]
  simp only [ho, hwant, if_true]
  refine .inl ?_
  unfold Oper.wp
  obtain ⟨g1, g2, g3⟩ := hr.wr.hid c _ hH
  have ry := ev_sound hr.tr hx
  rw [hy] at ry
  have rc := cells_sound (a1 := w) ry
  have hnl := rc.length
  have hpe : a.eval (.tmp t) = .pointer (some ⟨c, 0, none⟩) := hp
  have hst := run_storeAt_cells (P := P) (off := 0) (val := a.eval x) hty g1 (.inr (Nat.le_refl _)) (by simp at hnl; omega) (.inr (by omega)) (All2.one rc)
  have hrun : (execOp a.eval o).run P E.w = .ok .skip (E.w.setCells c 0 (a.eval x).cells.toList) := by
    simp [execOp, hop, hpe, hst]
  rw [hrun, Oper.upon_skip, hd]
  obtain ⟨cs', q1, q2, q3, q4, q5, q6, q7, q8, q9⟩ := setCells_heap c (a.eval x).cells.toList 0 E.w cs e (0, 0) g1
  have hc0 : X.w0.heap.size ≤ c := g2
  have hE : ExtH (X.hide H) ((X.hide H).hide fun k => if k = c then none else H k) E { E with w := E.w.setCells c 0 (a.eval x).cells.toList } := by
    refine ⟨rfl, rfl, rfl, fun k hk => q5 k fun e => g3 (e ▸ hk), fun tg k hk hok => ?_⟩
    have hne : k ≠ c := by
      rintro rfl
      rcases hok with ⟨_, p⟩ | ⟨_, p⟩
      · exact p (.inr (by show (H k).isSome = true; rw [hH]; rfl))
      · have := (hr.wr.f1 k p).1
        have : k < X.w0.heap.size := this
        omega
    refine ⟨?_, q5 k hne⟩
    rcases hok with ⟨p1, p2⟩ | p
    · refine .inl ⟨p1, fun r => p2 ?_⟩
      rcases r with r | r
      · exact .inl r
      · refine .inr ?_
        have : ((fun k => if k = c then none else H k) k).isSome = true := r
        simp only [if_neg hne] at this
        exact this
    · exact .inr p
  refine hn { E with w := E.w.setCells c 0 (a.eval x).cells.toList } rfl rfl rfl q5 q6 g3 hc0 ?_
  have ris := traverse_cellI rfl rfl rc hi
  have hv0 : AVR (X.hide fun k => if k = c then none else H k) { E with w := E.w.setCells c 0 (a.eval x).cells.toList } (V (.lp 0 is)) (a.tmps.getD t undef) := by
    rw [hp]
    have hl2 := ris.length
    refine VR.lp 0 is c 0 cs' e (0, 0) (a.eval x).cells.toList (.inl ⟨hc0, fun r => ?_⟩) q1 hl2 (fun j v hv => ?_) (fun j z v hz hv => ?_)
    · rcases r with r | r
      · exact g3 r
      · have : ((fun k => if k = c then (none : Option Obj) else H k) c).isSome = true := r
        simp at this
    · have hj := (List.getElem?_eq_some_iff.1 hv).1
      rw [Nat.zero_add, q3 j (Nat.zero_le _) (by omega) (by simp at hnl hj; omega), Nat.sub_zero]
      exact hv
    · obtain ⟨v', h1, h2⟩ := ris.get j z hz
      rw [hv] at h1
      simp at h1
      subst h1
      exact VR.mono hE.ok h2
  refine ⟨hr.h, hr.ct, hr.wr.extH hE (by simp [q6]) (fun k hk => q5 k (by have : k < X.w0.heap.size := hk; omega)) q7 q8 q9 fun k o' hk => ?_, ⟨hr.tr.defers, by simp [St.put, hr.tr.size], fun j v hv => ?_⟩⟩
  · have _hz := trivial
    split at hk
    · simp at hk
    · rename_i hne
      obtain ⟨p1, p2, p3⟩ := hr.wr.hid k o' hk
      exact ⟨(q5 k hne).trans p1, p2, p3⟩
  · simp only [St.put] at hv
    by_cases e : j = t
    · subst e
      have hlt : j < s.tm.length := by
        have := (List.getElem?_eq_some_iff.1 hv).1; simpa using this
      rw [List.getElem?_set_self hlt] at hv
      simp at hv
      subst hv
      exact hv0
    · rw [List.getElem?_set_ne (Ne.symm e)] at hv
      exact (hr.tr.at_ j v hv).extH hE
end
end Go.Abs
