/-
  The abstract machine beside Go's model: calls: what the callee sees, what comes back.
-/
import Derived.Test.YtcbepglkfglclaaDoorHAbsS
namespace Go.Abs
open Go.RowKit

theorem VR.retag {p p' : Nat → Nat → Prop} {h : Array Obj} (hp : ∀ t c, c < h.size → p t c → p' 1 c) {x : IV} {v : Value} (r : VR p h x v) : VR p' h (x.retag 1) v := by
  have hlen : ∀ l : List IV, (IV.retags 1 l).length = l.length := by
    intro l; induction l with
    | nil => rfl
    | cons _ _ ih => simp [IV.retags, ih]
  have hget : ∀ (l : List IV) (i : Nat) (y : IV), (IV.retags 1 l)[i]? = some y → ∃ z, l[i]? = some z ∧ y = z.retag 1 := by
    intro l; induction l with
    | nil => intro i y h; simp [IV.retags] at h
    | cons a l ih =>
      intro i y h
      cases i with
      | zero => simp [IV.retags] at h; exact ⟨a, rfl, h.symm⟩
      | succ i => simpa using ih i y (by simpa [IV.retags] using h)
  induction r with
  | bool b => exact .bool b
  | int k n => exact .int k n
  | str l s e => exact .str l s e
  | nilS => exact .nilS
  | emp a => exact .emp a
  | lit t cells len c o cap cs e fr vs h1 h2 h3 h4 _ h6 ih =>
    have hc := (Array.getElem?_eq_some_iff.1 h2).1
    refine .lit 1 (IV.retags 1 cells) len c o cap cs e fr vs (hp t c hc h1) h2 (by rw [hlen]; exact h3) h4 (fun i x v hx hv => ?_) h6
    obtain ⟨z, hz, rfl⟩ := hget cells i x hx
    exact ih i z v hz hv
  | lit0 t len cap a h => exact .lit0 1 len cap a h
  | lp t cells c o cs e fr vs h1 h2 h3 h4 _ ih =>
    have hc := (Array.getElem?_eq_some_iff.1 h2).1
    refine .lp 1 (IV.retags 1 cells) c o cs e fr vs (hp t c hc h1) h2 (by rw [hlen]; exact h3) h4 (fun i x v hx hv => ?_)
    obtain ⟨z, hz, rfl⟩ := hget cells i x hx
    exact ih i z v hz hv
  | lp0 t a => exact .lp0 1 a
  | nilP => exact .nilP
  | gp g off => exact .gp g off
  | nilM => exact .nilM
  | nilF => exact .nilF
  | clo f caps vs h1 _ ih =>
    refine .clo f (IV.retags 1 caps) vs (by rw [hlen]; exact h1) (fun i x v hx hv => ?_)
    obtain ⟨z, hz, rfl⟩ := hget caps i x hx
    exact ih i z v hz hv
  | nilI => exact .nilI

theorem freshs_get : ∀ {l : List IV} (_ : IV.freshs l = true) (i : Nat) (x : IV), l[i]? = some x → x.fresh = true
  | [], _, i, x, h => by simp at h
  | a :: l, e, i, x, h => by
    simp [IV.freshs] at e
    cases i with
    | zero => simp at h; subst h; exact e.1
    | succ i => exact freshs_get e.2 i x (by simpa using h)

theorem VR.fresh {p p' : Nat → Nat → Prop} {h : Array Obj} (hp : ∀ c, c < h.size → p 0 c → p' 0 c) {x : IV} {v : Value} (r : VR p h x v) (e : x.fresh = true) : VR p' h x v := by
  induction r with
  | bool b => exact .bool b
  | int k n => exact .int k n
  | str l s e1 => exact .str l s e1
  | nilS => exact .nilS
  | emp a => exact .emp a
  | lit t cells len c o cap cs ee fr vs h1 h2 h3 h4 _ h6 ih =>
    simp [IV.fresh] at e
    obtain ⟨rfl, e⟩ := e
    have hc := (Array.getElem?_eq_some_iff.1 h2).1
    exact .lit 0 cells len c o cap cs ee fr vs (hp c hc h1) h2 h3 h4 (fun i x v hx hv => ih i x v hx hv (freshs_get e i x hx)) h6
  | lit0 t len cap a h => exact .lit0 t len cap a h
  | lp t cells c o cs ee fr vs h1 h2 h3 h4 _ ih =>
    simp [IV.fresh] at e
    obtain ⟨rfl, e⟩ := e
    have hc := (Array.getElem?_eq_some_iff.1 h2).1
    exact .lp 0 cells c o cs ee fr vs (hp c hc h1) h2 h3 h4 (fun i x v hx hv => ih i x v hx hv (freshs_get e i x hx))
  | lp0 t a => exact .lp0 t a
  | nilP => exact .nilP
  | gp g off => exact .gp g off
  | nilM => exact .nilM
  | nilF => exact .nilF
  | clo f caps vs h1 _ ih =>
    simp [IV.fresh] at e
    exact .clo f caps vs h1 (fun i x v hx hv => ih i x v hx hv (freshs_get e i x hx))
  | nilI => exact .nilI

/-- The callee's activation: the blocks of 'ids' are handed over. -/
def calleeX (X : Cx) (E : Env) (ids : List Nat) (lent : Bool) : Cx where
  w0 := E.w
  A0 := fun k c => ∃ i b, k = PB + i ∧ ids[i]? = some b ∧ (E.h.get b).isSome = true ∧ (E.m b).1 = c
  F1 := fun c => c < E.w.heap.size ∧ (¬ ∃ b, b ∈ ids ∧ (E.h.get b).isSome = true ∧ (E.m b).1 = c) ∧ (lent = true ∨ okc X E 1 c)

def calleeE (E : Env) (ids : List Nat) (bs : List Blk) : Env where
  h := bs.zipIdx.map fun (b, i) => (PB + i, b)
  m := fun k => E.m (ids.getD (k - PB) 0)
  ct := 1
  w := E.w

theorem zip_get (bs : List Blk) : ∀ (k n : Nat), Heap.get ((bs.zipIdx n).map fun (b, i) => (PB + i, b)) k = if PB + n ≤ k then bs[k - (PB + n)]? else none := by
  induction bs with
  | nil => intro k n; simp [Heap.get]
  | cons b bs ih =>
    intro k n
    simp only [List.zipIdx_cons, List.map_cons, Heap.get]
    by_cases h : PB + n = k
    · subst h; simp
    · rw [if_neg h, ih]
      by_cases h2 : PB + n ≤ k
      · rw [if_pos h2, if_pos (by omega)]
        have : k - (PB + n) = (k - (PB + (n + 1))) + 1 := by omega
        rw [this]; simp
      · rw [if_neg h2, if_neg (by omega)]

theorem idxOf_some {ids : List Nat} {b i : Nat} (h : idxOf ids b = some i) : ids[i]? = some b := by
  induction ids generalizing i with
  | nil => simp [idxOf] at h
  | cons k l ih =>
    simp only [idxOf] at h
    split at h
    · rename_i e; simp at h; subst h; simp [e]
    · cases hq : idxOf l b with
      | none => simp [hq] at h
      | some j => simp [hq] at h; subst h; simpa using ih hq

theorem idxOf_none {ids : List Nat} {b : Nat} (h : idxOf ids b = none) : b ∉ ids := by
  induction ids with
  | nil => simp
  | cons k l ih =>
    simp only [idxOf] at h
    split at h
    · simp at h
    · rename_i e
      cases hq : idxOf l b with
      | none => simp; exact ⟨fun q => e q.symm, ih hq⟩
      | some j => simp [hq] at h

theorem toB_gen {h : Heap} {ids : List Nat} {x y : Blk} (e : toB h ids x = some y) : y.gen = 0 := by
  cases x with
  | cells g cs => simp only [toB] at e; cases hq : traverse (toC false h ids) cs <;> simp [hq] at e; subst e; rfl
  | map g es k => simp only [toB] at e; cases hq : traverse (toEnt h ids) es <;> simp [hq] at e; subst e; rfl
  | iter g l p => simp [toB] at e; subst e; rfl

section
variable {P : Program} {X : Cx} {E : Env} {ids : List Nat} {bs : List Blk} {lent : Bool}

theorem notA (hW : WR X E) {t c : Nat} (h : okc X E t c) : ¬ ∃ b, b ∈ ids ∧ (E.h.get b).isSome = true ∧ (E.m b).1 = c := by
  rintro ⟨b, _, h1, h2⟩
  rcases h with ⟨_, h3⟩ | ⟨_, h3⟩
  · exact h3 (.inl ⟨b, h1, h2⟩)
  · obtain ⟨y, hy⟩ := Option.isSome_iff_exists.1 h1
    obtain ⟨q1, q2⟩ := hW.f1 c h3
    rcases (hW.blk b y hy).2.2 with h4 | h4
    · omega
    · rw [h2] at h4; exact q2 ⟨b, h4⟩

theorem to_ok (hW : WR X E) {t c : Nat} (hc : c < E.w.heap.size) (h : okc X E t c) : okc (calleeX X E ids lent) (calleeE E ids bs) 1 c := by
  refine .inr ⟨by omega, hc, notA hW h, .inr ?_⟩
  rcases h with h | ⟨_, h⟩
  · exact .inl h
  · exact .inr ⟨by omega, h⟩

theorem calleeE_get (i : Nat) : (calleeE E ids bs).h.get (PB + i) = bs[i]? := by
  have h := zip_get bs (PB + i) 0
  rw [Nat.add_zero, if_pos (Nat.le_add_right PB i), Nat.add_sub_cancel_left] at h
  exact h

theorem calleeE_m {i b : Nat} (h : ids[i]? = some b) : (calleeE E ids bs).m (PB + i) = E.m b := by
  simp [calleeE, h]

theorem toR_sound (hW : WR X E) {bor : Bool} {x : AR} {v : Value} {y : AR} (r : RR X E x v) (e : toR bor E.h ids x = some y) (hl : lentR ids x = true → lent = true) :
    RR (calleeX X E ids lent) (calleeE E ids bs) y v := by
  have hre : ∀ t c, c < E.w.heap.size → okc X E t c → okc (calleeX X E ids lent) (calleeE E ids bs) 1 c := fun t c hc h => to_ok hW hc h
  cases x with
  | i iv =>
    simp [toR] at e
    subst e
    exact VR.retag hre r
  | ptr b g off =>
    simp only [toR] at e
    split at e
    · rename_i i hi
      split at e
      · rename_i hcur
        simp at e
        subst e
        obtain ⟨h1, h2, h3⟩ := r
        refine ⟨h1, Nat.lt_succ_self _, fun _ => ?_⟩
        rw [calleeE_m (idxOf_some hi)]
        exact h3 hcur
      · simp at e
    · rename_i hi
      split at e
      · have hlent : lent = true := hl (by simp [lentR, hi])
        split at e
        · rename_i iv hiv
          simp at e
          subst e
          have h2 := rd_sound hW (fun b => (idxOf ids b).isNone) 1 (fun _ c => okc (calleeX X E ids lent) (calleeE E ids bs) 1 c) (fun t c hc h => to_ok hW hc h)
            (fun b x hq hg => by
              refine .inr ⟨by omega, hW.lt hg, ?_, .inl hlent⟩
              rintro ⟨b', hb', h3, h4⟩
              have := hW.inj b' b h3 (by simp [hg]) h4
              subst this
              exact idxOf_none (by simpa using hq) hb') rdDepth (.r (.ptr b g off)) v iv r hiv
          exact VR.retag (fun t c _ h => h) h2
        · simp at e
      · simp at e
  | map b g =>
    simp only [toR] at e
    split at e
    · rename_i i hi
      split at e
      · rename_i hcur
        simp at e
        subst e
        obtain ⟨h1, h2, h3⟩ := r
        refine ⟨h1, Nat.lt_succ_self _, fun _ => ?_⟩
        rw [calleeE_m (idxOf_some hi)]
        exact h3 hcur
      · simp at e
    · simp at e
  | sl b g off sz len =>
    simp only [toR] at e
    split at e
    · rename_i i hi
      split at e
      · rename_i hcur
        simp at e
        subst e
        obtain ⟨h1, h2, h3⟩ := r
        refine ⟨h1, Nat.lt_succ_self _, fun _ => ?_⟩
        rw [calleeE_m (idxOf_some hi)]
        exact h3 hcur
      · simp at e
    · rename_i hi
      split at e
      · have hlent : lent = true := hl (by simp [lentR, hi])
        split at e
        · rename_i iv hiv
          simp at e
          subst e
          have h2 := rd_sound hW (fun b => (idxOf ids b).isNone) 1 (fun _ c => okc (calleeX X E ids lent) (calleeE E ids bs) 1 c) (fun t c hc h => to_ok hW hc h)
            (fun b x hq hg => by
              refine .inr ⟨by omega, hW.lt hg, ?_, .inl hlent⟩
              rintro ⟨b', hb', h3, h4⟩
              have := hW.inj b' b h3 (by simp [hg]) h4
              subst this
              exact idxOf_none (by simpa using hq) hb') rdDepth (.r (.sl b g off sz len)) v iv r hiv
          exact VR.retag (fun t c _ h => h) h2
        · simp at e
      · simp at e

theorem toC_sound (hW : WR X E) {bor : Bool} {x : AC} {v : Value} {y : AC} (r : CC X E x v) (e : toC bor E.h ids x = some y) (hl : lentC ids x = true → lent = true) :
    CC (calleeX X E ids lent) (calleeE E ids bs) y v := by
  cases x with
  | r a =>
    simp only [toC] at e
    cases hq : toR bor E.h ids a with
    | none => simp [hq] at e
    | some b => simp [hq] at e; subst e; exact toR_sound hW r hq hl
  | clo f caps =>
    simp only [toC] at e
    cases hq : traverse (toR bor E.h ids) caps with
    | none => simp [hq] at e
    | some cs =>
      simp [hq] at e; subst e
      obtain ⟨ws, rfl, hr⟩ := r
      refine mkClo_sound ?_
      have aux : ∀ {l : List AR} {m : List Value} {l' : List AR}, All2 (RR X E) l m → traverse (toR bor E.h ids) l = some l' → (∀ x ∈ l, lentR ids x = true → lent = true) →
          All2 (RR (calleeX X E ids lent) (calleeE E ids bs)) l' m := by
        intro l m l' h
        induction h generalizing l' with
        | nil => intro e _; simp [traverse] at e; subst e; exact .nil
        | cons h _ ih =>
          intro e hx
          simp only [traverse] at e
          split at e
          · simp at e
          · rename_i b hb
            split at e
            · simp at e
            · rename_i bs' hbs
              simp at e; subst e
              exact .cons (toR_sound hW h hb (hx _ (.head _))) (ih hbs fun x hx' => hx x (.tail _ hx'))
      exact aux hr hq fun x hx h => hl (by simp only [lentC, List.any_eq_true]; exact ⟨x, hx, h⟩)

theorem toCs_sound (hW : WR X E) {bor : Bool} : ∀ {l : List AC} {m : List Value} {l' : List AC}, All2 (CC X E) l m → traverse (toC bor E.h ids) l = some l' → (∀ x ∈ l, lentC ids x = true → lent = true) →
    All2 (CC (calleeX X E ids lent) (calleeE E ids bs)) l' m := by
  intro l m l' h
  induction h generalizing l' with
  | nil => intro e _; simp [traverse] at e; subst e; exact .nil
  | cons h _ ih =>
    intro e hx
    simp only [traverse] at e
    split at e
    · simp at e
    · rename_i b hb
      split at e
      · simp at e
      · rename_i bs' hbs
        simp at e; subst e
        exact .cons (toC_sound hW h hb (hx _ (.head _))) (ih hbs fun x hx' => hx x (.tail _ hx'))

theorem to1_sound (hW : WR X E) {bor : Bool} {x : A1} {v : Value} {y : A1} (r : A1R X E x v) (e : to1 bor E.h ids x = some y) (hl : ∀ z ∈ x.cells, lentC ids z = true → lent = true) :
    A1R (calleeX X E ids lent) (calleeE E ids bs) y v := by
  cases x with
  | c x =>
    simp only [to1] at e
    cases hq : toC bor E.h ids x with
    | none => simp [hq] at e
    | some b => simp [hq] at e; subst e; exact toC_sound hW r hq (hl x (by simp [A1.cells]))
  | agg xs =>
    simp only [to1] at e
    cases hq : traverse (toC bor E.h ids) xs with
    | none => simp [hq] at e
    | some b =>
      simp [hq] at e; subst e
      obtain ⟨vs, rfl, hr⟩ := r
      exact ⟨vs, rfl, toCs_sound hW hr hq fun z hz => hl z hz⟩

theorem toR_strict {x : AR} {y : AR} {h : Heap} (e : toR false h ids x = some y) : lentR ids x = false := by
  cases x with
  | sl b g off sz len =>
    simp only [toR] at e
    split at e
    · rename_i i hi; simp [lentR, hi]
    · simp at e
  | ptr b g off =>
    simp only [toR] at e
    split at e
    · rename_i i hi; simp [lentR, hi]
    · simp at e
  | _ => rfl

theorem traverse_mem {α β : Type} {f : α → Option β} : ∀ {l : List α} {l' : List β}, traverse f l = some l' → ∀ x ∈ l, ∃ y, f x = some y
  | [], _, _, x, hx => by simp at hx
  | a :: l, _, h, x, hx => by
    simp only [traverse] at h
    split at h
    · simp at h
    · rename_i b hb
      split at h
      · simp at h
      · rename_i bs hbs
        rcases List.mem_cons.1 hx with rfl | hx
        · exact ⟨b, hb⟩
        · exact traverse_mem hbs x hx

theorem toC_strict {x : AC} {y : AC} {h : Heap} (e : toC false h ids x = some y) : lentC ids x = false := by
  cases x with
  | r a =>
    simp only [toC] at e
    cases hq : toR false h ids a with
    | none => simp [hq] at e
    | some b => exact toR_strict hq
  | clo f caps =>
    simp only [toC] at e
    cases hq : traverse (toR false h ids) caps with
    | none => simp [hq] at e
    | some cs =>
      simp only [lentC, List.any_eq_false]
      intro x hx
      obtain ⟨y, hy⟩ := traverse_mem hq x hx
      simp [toR_strict hy]

theorem to1_strict {x : A1} {y : A1} {h : Heap} (e : to1 false h ids x = some y) : ∀ z ∈ x.cells, lentC ids z = true → lent = true := by
  intro z hz hq
  cases x with
  | c x =>
    simp [A1.cells] at hz
    subst hz
    simp only [to1] at e
    cases h2 : toC false h ids z with
    | none => simp [h2] at e
    | some b => rw [toC_strict h2] at hq; simp at hq
  | agg xs =>
    simp only [to1] at e
    cases h2 : traverse (toC false h ids) xs with
    | none => simp [h2] at e
    | some b =>
      obtain ⟨y, hy⟩ := traverse_mem h2 z hz
      rw [toC_strict hy] at hq; simp at hq

theorem toB_sound (hW : WR X E) {b i : Nat} (hb : ids[i]? = some b) {x y : Blk} (r : BR X E b x) (e : toB E.h ids x = some y) : BR (calleeX X E ids lent) (calleeE E ids bs) (PB + i) y := by
  have hm := calleeE_m (E := E) (bs := bs) hb
  cases x with
  | cells g cs =>
    simp only [toB] at e
    cases hq : traverse (toC false E.h ids) cs with
    | none => simp [hq] at e
    | some cs' =>
      simp [hq] at e; subst e
      obtain ⟨cc, ee, fr, h1, h2, h3, h4⟩ := r
      refine ⟨cc, ee, fr, by rw [hm]; exact h1, h2, by rw [hm, traverse_length hq]; exact h3, fun k z hk hz => ?_⟩
      rw [hm] at hk ⊢
      obtain ⟨z0, hz0, hzz⟩ := traverse_get hq k z hz
      obtain ⟨w, hw, hr⟩ := h4 k z0 hk hz0
      exact ⟨w, hw, toC_sound hW hr hzz (by rw [toC_strict hzz]; simp)⟩
  | map g es k =>
    simp only [toB] at e
    cases hq : traverse (toEnt E.h ids) es with
    | none => simp [hq] at e
    | some es' =>
      simp [hq] at e; subst e
      obtain ⟨ces, h1, h2⟩ := r
      refine ⟨ces, by rw [hm]; exact h1, h2.of_traverse (fun u w z hr hz => ?_) hq⟩
      unfold toEnt at hz
      split at hz
      · rename_i kk vv hk hv
        simp at hz; subst hz
        exact ⟨to1_sound hW hr.key hk (to1_strict hk), to1_sound hW hr.val hv (to1_strict hv), hr.born⟩
      · simp at hz
  | iter g l p =>
    simp [toB] at e; subst e
    obtain ⟨s, h1, h2⟩ := r
    exact ⟨s, by rw [hm]; exact h1, h2⟩

theorem handOver_get {h : Heap} (e : handOver h ids = some bs) {i : Nat} {y : Blk} (hy : bs[i]? = some y) : ∃ b x, ids[i]? = some b ∧ h.get b = some x ∧ toB h ids x = some y := by
  obtain ⟨b, hb, hq⟩ := traverse_get e i y hy
  split at hq
  · rename_i x hx
    exact ⟨b, x, hb, hx, hq⟩
  · simp at hq

theorem nodupB_inj : ∀ {l : List Nat} (_ : nodupB l = true) {i j b : Nat}, l[i]? = some b → l[j]? = some b → i = j
  | [], _, i, j, b, h, _ => by simp at h
  | a :: l, e, i, j, b, hi, hj => by
    simp [nodupB] at e
    cases i with
    | zero =>
      simp at hi; subst hi
      cases j with
      | zero => rfl
      | succ j => simp at hj; exact absurd (List.mem_of_getElem? hj) e.1
    | succ i =>
      simp at hi
      cases j with
      | zero => simp at hj; subst hj; exact absurd (List.mem_of_getElem? hi) e.1
      | succ j => simp at hj; rw [nodupB_inj e.2 hi hj]

/-- THE CALLEE'S WORLD AT ITS BEGIN. -/
theorem callee_wr (hW : WR X E) (hn : nodupB ids = true) (e : handOver E.h ids = some bs) : WR (calleeX X E ids lent) (calleeE E ids bs) := by
  have hget : ∀ k y, (calleeE E ids bs).h.get k = some y → ∃ i, k = PB + i ∧ bs[i]? = some y := fun k y h => by
    have h2 := zip_get bs k 0
    rw [Nat.add_zero] at h2
    have h3 : (if PB ≤ k then bs[k - PB]? else none) = some y := h2.symm.trans h
    split at h3
    · rename_i hk
      exact ⟨k - PB, (Nat.add_sub_cancel' hk).symm, h3⟩
    · simp at h3
  refine ⟨fun k y hy => ?_, fun k k' h1 h2 he => ?_, Nat.le_refl _, fun _ _ _ => rfl, rfl, rfl, rfl, fun c hc => ⟨hc.1, ?_⟩, ?_, fun c o hc => by simp [calleeX] at hc⟩
  · obtain ⟨i, rfl, hi⟩ := hget k y hy
    obtain ⟨b, x, hb, hx, hxy⟩ := handOver_get e hi
    refine ⟨toB_sound hW hb (hW.blk b x hx).1 hxy, by rw [toB_gen hxy]; exact Nat.lt_succ_self _, .inr ⟨i, b, rfl, hb, by simp [hx], by rw [calleeE_m hb]⟩⟩
  · obtain ⟨y, hy⟩ := Option.isSome_iff_exists.1 h1
    obtain ⟨y', hy'⟩ := Option.isSome_iff_exists.1 h2
    obtain ⟨i, rfl, hi⟩ := hget k y hy
    obtain ⟨j, rfl, hj⟩ := hget k' y' hy'
    obtain ⟨b, x, hb, hx, _⟩ := handOver_get e hi
    obtain ⟨b', x', hb', hx', _⟩ := handOver_get e hj
    rw [calleeE_m hb, calleeE_m hb'] at he
    have := hW.inj b b' (by simp [hx]) (by simp [hx']) he
    subst this
    rw [nodupB_inj hn hb hb']
  · rintro ⟨k, i, b, _, h2, h3, h4⟩
    exact hc.2.1 ⟨b, List.mem_of_getElem? h2, h3, h4⟩
  · rintro k c ⟨i, b, rfl, h2, h3, h4⟩
    obtain ⟨y, hy⟩ := Option.isSome_iff_exists.1 h3
    refine ⟨by omega, ?_⟩
    rw [← h4]
    exact hW.lt hy

theorem callee_gok (hW : WR X E) {G : Nat → List IV} (hG : GOk X G) : GOk (calleeX X E ids lent) G := by
  intro g hg
  obtain ⟨h1, h2, cc, e, fr, h3, h4⟩ := hG g hg
  refine ⟨Nat.lt_of_lt_of_le h1 hW.size, ?_, cc, e, fr, ?_, h4⟩
  · rintro ⟨k, i, b, _, q2, q3, q4⟩
    obtain ⟨y, hy⟩ := Option.isSome_iff_exists.1 q3
    rcases (hW.blk b y hy).2.2 with q5 | q5
    · omega
    · rw [q4] at q5; exact h2 ⟨b, q5⟩
  · show E.w.heap[g]? = _
    rw [hW.still g h1 h2]; exact h3

end
end Go.Abs
