/-
  The abstract machine beside Go's model: which value is told by which, which memory by which; what is kept while memory grows.
-/
import Derived.Test.YtcbepglkfglclaaDoorHAbsA
import Derived.WalkKit
namespace Go.Abs

inductive All2 {α β : Type} (R : α → β → Prop) : List α → List β → Prop
  | nil : All2 R [] []
  | cons {a b l m} : R a b → All2 R l m → All2 R (a :: l) (b :: m)

theorem All2.mono {α β : Type} {R S : α → β → Prop} {l : List α} {m : List β} (h : All2 R l m) (f : ∀ a b, R a b → S a b) : All2 S l m := by
  induction h with
  | nil => exact .nil
  | cons h _ ih => exact .cons (f _ _ h) ih

theorem All2.length {α β : Type} {R : α → β → Prop} {l : List α} {m : List β} (h : All2 R l m) : m.length = l.length := by
  induction h with
  | nil => rfl
  | cons _ _ ih => simp [ih]

theorem All2.get {α β : Type} {R : α → β → Prop} {l : List α} {m : List β} (h : All2 R l m) : ∀ (i : Nat) (a : α), l[i]? = some a → ∃ b, m[i]? = some b ∧ R a b := by
  induction h with
  | nil => intro i a h; simp at h
  | cons h _ ih =>
    intro i a hi
    cases i with
    | zero => simp at hi; subst hi; exact ⟨_, rfl, h⟩
    | succ i => simpa using ih i a (by simpa using hi)

theorem All2.get' {α β : Type} {R : α → β → Prop} {l : List α} {m : List β} (h : All2 R l m) : ∀ (i : Nat) (b : β), m[i]? = some b → ∃ a, l[i]? = some a ∧ R a b := by
  induction h with
  | nil => intro i a h; simp at h
  | cons h _ ih =>
    intro i a hi
    cases i with
    | zero => simp at hi; subst hi; exact ⟨_, rfl, h⟩
    | succ i => simpa using ih i a (by simpa using hi)

theorem All2.of_get {α β : Type} {R : α → β → Prop} : ∀ {l : List α} {m : List β}, m.length = l.length → (∀ (i : Nat) (a : α) (b : β), l[i]? = some a → m[i]? = some b → R a b) → All2 R l m
  | [], [], _, _ => .nil
  | [], _ :: _, h, _ => by simp at h
  | _ :: _, [], h, _ => by simp at h
  | a :: l, b :: m, h, f => .cons (f 0 a b rfl rfl) (All2.of_get (by simpa using h) fun i x y hx hy => f (i + 1) x y (by simpa using hx) (by simpa using hy))

theorem All2.append {α β : Type} {R : α → β → Prop} {l l' : List α} {m m' : List β} (h : All2 R l m) (h' : All2 R l' m') : All2 R (l ++ l') (m ++ m') := by
  induction h with
  | nil => exact h'
  | cons h _ ih => exact .cons h ih

theorem All2.take {α β : Type} {R : α → β → Prop} {l : List α} {m : List β} (h : All2 R l m) : ∀ n, All2 R (l.take n) (m.take n) := by
  induction h with
  | nil => intro n; simp; exact .nil
  | cons h _ ih => intro n; cases n with
    | zero => simp; exact .nil
    | succ n => simp; exact .cons h (ih n)

theorem All2.drop {α β : Type} {R : α → β → Prop} {l : List α} {m : List β} (h : All2 R l m) : ∀ n, All2 R (l.drop n) (m.drop n) := by
  induction h with
  | nil => intro n; simp; exact .nil
  | cons h h' ih => intro n; cases n with
    | zero => simpa using .cons h h'
    | succ n => simpa using ih n

theorem All2.map {α β γ : Type} {R : α → β → Prop} {S : γ → β → Prop} {l : List α} {m : List β} (g : α → γ) (h : All2 R l m) (f : ∀ a b, R a b → S (g a) b) : All2 S (l.map g) m := by
  induction h with
  | nil => exact .nil
  | cons h _ ih => exact .cons (f _ _ h) ih

theorem All2.of_traverse {α β γ : Type} {R : α → β → Prop} {S : γ → β → Prop} {g : α → Option γ} {l : List α} {m : List β} (h : All2 R l m) (f : ∀ a b c, R a b → g a = some c → S c b) :
    ∀ {l' : List γ}, traverse g l = some l' → All2 S l' m := by
  induction h with
  | nil => intro l' e; simp [traverse] at e; subst e; exact .nil
  | @cons a b l m h _ ih =>
    intro l' e
    simp only [traverse] at e
    split at e
    · simp at e
    · rename_i c hc
      split at e
      · simp at e
      · rename_i cs hcs
        simp at e
        subst e
        exact .cons (f _ _ _ h hc) (ih hcs)

theorem traverse_length {α β : Type} {f : α → Option β} : ∀ {l : List α} {l' : List β}, traverse f l = some l' → l'.length = l.length
  | [], _, h => by simp [traverse] at h; subst h; rfl
  | a :: l, _, h => by
    simp only [traverse] at h
    split at h
    · simp at h
    · split at h
      · simp at h
      · rename_i bs hbs
        simp at h
        subst h
        simp [traverse_length hbs]

theorem traverse_get {α β : Type} {f : α → Option β} : ∀ {l : List α} {l' : List β}, traverse f l = some l' → ∀ (i : Nat) (b : β), l'[i]? = some b → ∃ a, l[i]? = some a ∧ f a = some b
  | [], _, h, i, b, hb => by simp [traverse] at h; subst h; simp at hb
  | a :: l, _, h, i, b, hb => by
    simp only [traverse] at h
    split at h
    · simp at h
    · rename_i c hc
      split at h
      · simp at h
      · rename_i bs hbs
        simp at h
        subst h
        cases i with
        | zero => simp at hb; subst hb; exact ⟨a, rfl, hc⟩
        | succ i => simpa using traverse_get hbs i b (by simpa using hb)

/-- The value of one cell. -/
def One (v : Value) : Prop := v.oneCell' = true

/-- What is told in place. 'p t c': a literal with the tag t may lie in block c. -/
inductive VR (p : Nat → Nat → Prop) (h : Array Obj) : IV → Value → Prop
  | bool (b : Bool) : VR p h (.bool b) (.bool b)
  | int (k : IntKind) (n : Int) : VR p h (.int k n) (.int k n)
  | str (l : List UInt8) (s : ByteArray) : s.data.toList = l → VR p h (.str l) (.string s)
  | nilS : VR p h .nilS (.slice none 0 0)
  | emp (a : Addr) : VR p h .emp (.slice (some a) 0 0)
  | lit (t : Nat) (cells : List IV) (len c o cap : Nat) (cs : Array Value) (e : TypeId) (fr : Nat × Nat) (vs : List Value) :
      p t c → h[c]? = some (.cells cs e fr) → vs.length = cells.length → (∀ (i : Nat) (v : Value), vs[i]? = some v → cs[o + i]? = some v) →
      (∀ (i : Nat) (x : IV) (v : Value), cells[i]? = some x → vs[i]? = some v → VR p h x v) → len ≤ cap → VR p h (.lit t cells len) (.slice (some ⟨c, o, none⟩) len cap)
  | lit0 (t len cap : Nat) (a : Addr) : len ≤ cap → VR p h (.lit t [] len) (.slice (some a) len cap)
  | lp (t : Nat) (cells : List IV) (c o : Nat) (cs : Array Value) (e : TypeId) (fr : Nat × Nat) (vs : List Value) :
      p t c → h[c]? = some (.cells cs e fr) → vs.length = cells.length → (∀ (i : Nat) (v : Value), vs[i]? = some v → cs[o + i]? = some v) →
      (∀ (i : Nat) (x : IV) (v : Value), cells[i]? = some x → vs[i]? = some v → VR p h x v) → VR p h (.lp t cells) (.pointer (some ⟨c, o, none⟩))
  | lp0 (t : Nat) (a : Addr) : VR p h (.lp t []) (.pointer (some a))
  | nilP : VR p h .nilP (.pointer none)
  | gp (g off : Nat) : VR p h (.gp g off) (.pointer (some ⟨g, off, none⟩))
  | nilM : VR p h .nilM (.map none)
  | nilF : VR p h .nilF .nilFunc
  | clo (f : Nat) (caps : List IV) (vs : List Value) : vs.length = caps.length → (∀ (i : Nat) (x : IV) (v : Value), caps[i]? = some x → vs[i]? = some v → VR p h x v) →
      VR p h (.clo f caps) (.func (.func f) #[] vs.toArray)
  | nilI : VR p h .nilI .nilIface

theorem VR.one {p : Nat → Nat → Prop} {h : Array Obj} {x : IV} {v : Value} (r : VR p h x v) : One v := by cases r <;> rfl

theorem VR.mono {p p' : Nat → Nat → Prop} {h h' : Array Obj} (hp : ∀ t c, c < h.size → p t c → p' t c ∧ h'[c]? = h[c]?) {x : IV} {v : Value} (r : VR p h x v) : VR p' h' x v := by
  induction r with
  | bool b => exact .bool b
  | int k n => exact .int k n
  | str l s e => exact .str l s e
  | nilS => exact .nilS
  | emp a => exact .emp a
  | lit t cells len c o cap cs e fr vs h1 h2 h3 h4 _ h6 ih =>
    have hc := (Array.getElem?_eq_some_iff.1 h2).1
    obtain ⟨q1, q2⟩ := hp t c hc h1
    exact .lit t cells len c o cap cs e fr vs q1 (q2.trans h2) h3 h4 ih h6
  | lit0 t len cap a h => exact .lit0 t len cap a h
  | lp t cells c o cs e fr vs h1 h2 h3 h4 _ ih =>
    have hc := (Array.getElem?_eq_some_iff.1 h2).1
    obtain ⟨q1, q2⟩ := hp t c hc h1
    exact .lp t cells c o cs e fr vs q1 (q2.trans h2) h3 h4 ih
  | lp0 t a => exact .lp0 t a
  | nilP => exact .nilP
  | gp g off => exact .gp g off
  | nilM => exact .nilM
  | nilF => exact .nilF
  | clo f caps vs h1 _ ih => exact .clo f caps vs h1 ih
  | nilI => exact .nilI

/-- What does not turn while a function runs: the world in which it began, the blocks that it was handed, the blocks that stand still. -/
structure Cx where
  w0 : World
  A0 : Nat → Nat → Prop
  F1 : Nat → Prop
  H : Nat → Option Obj := fun _ => none

/-- The blocks of the world that it was handed. -/
def Cx.A (X : Cx) (c : Nat) : Prop := ∃ b, X.A0 b c

/-- Memory: the abstract one, where its blocks lie (block, shift), the counter, the world. -/
structure Env where
  h : Heap
  m : Nat → Nat × Nat
  ct : Nat
  w : World

def Env.live (E : Env) (c : Nat) : Prop := ∃ b, (E.h.get b).isSome = true ∧ (E.m b).1 = c

/-- A literal may lie in a block: of one's own, that nobody writes to and that is not hidden; or one that stands still. -/
def okc (X : Cx) (E : Env) (t c : Nat) : Prop := (X.w0.heap.size ≤ c ∧ ¬ (E.live c ∨ (X.H c).isSome = true)) ∨ (t ≠ 0 ∧ X.F1 c)

/-- The row that a slice lies in reaches to the end of its block. -/
def CapOk (w : World) (c o sz len cap : Nat) : Prop := len ≤ cap ∧ ∃ cs e fr, w.heap[c]? = some (.cells cs e fr) ∧ o + cap * sz = cs.size

def RR (X : Cx) (E : Env) : AR → Value → Prop
  | .i v, x => VR (okc X E) E.w.heap v x
  | .ptr b g off, x => One x ∧ g < E.ct ∧ (E.h.cur b = some g → (E.m b).2 ≤ off ∧ x = .pointer (some ⟨(E.m b).1, off - (E.m b).2, none⟩))
  | .sl b g off sz len, x => One x ∧ g < E.ct ∧ (E.h.cur b = some g → (E.m b).2 ≤ off ∧ ((∃ cap, x = .slice (some ⟨(E.m b).1, off - (E.m b).2, none⟩) len cap ∧ CapOk E.w (E.m b).1 (off - (E.m b).2) sz len cap) ∨ (len = 0 ∧ ∃ a, x = .slice (some a) 0 0)))
  | .map b g, x => One x ∧ g < E.ct ∧ (E.h.cur b = some g → x = .map (some (E.m b).1))

def CC (X : Cx) (E : Env) : AC → Value → Prop
  | .r a, x => RR X E a x
  | .clo f caps, x => ∃ vs, x = .func (.func f) #[] vs.toArray ∧ All2 (RR X E) caps vs

def A1R (X : Cx) (E : Env) : A1 → Value → Prop
  | .c a, x => CC X E a x
  | .agg xs, x => ∃ vs, x = .agg vs.toArray ∧ All2 (CC X E) xs vs

def AVR (X : Cx) (E : Env) : AV → Value → Prop
  | .und, _ => True
  | .skp, x => x = undef
  | .v a, x => A1R X E a x
  | .tup l, x => ∃ vs, x = .tuple vs.toArray ∧ All2 (A1R X E) l vs

structure EntR (X : Cx) (E : Env) (e : Ent) (c : MapEntry) : Prop where
  key : A1R X E e.key c.key
  val : A1R X E e.val c.val
  born : c.born = e.born

def BR (X : Cx) (E : Env) (b : Nat) : Blk → Prop
  | .cells _ cs => ∃ cc e fr, E.w.heap[(E.m b).1]? = some (.cells cc e fr) ∧ (cc.size ≤ fr.1 ∨ fr.2 ≤ fr.1) ∧ (E.m b).2 ≤ cs.length ∧
      ∀ i x, (E.m b).2 ≤ i → cs[i]? = some x → ∃ v, cc[i - (E.m b).2]? = some v ∧ CC X E x v
  | .map _ es clock => ∃ ces, E.w.heap[(E.m b).1]? = some (.map ces clock) ∧ All2 (EntR X E) es ces.toList
  | .iter _ s pos => ∃ bs, E.w.heap[(E.m b).1]? = some (.stringIter bs pos) ∧ bs.data.toList = s

/-- The world as memory tells it. -/
structure WR (X : Cx) (E : Env) : Prop where
  blk : ∀ b x, E.h.get b = some x → BR X E b x ∧ x.gen < E.ct ∧ (X.w0.heap.size ≤ (E.m b).1 ∨ X.A0 b (E.m b).1)
  inj : ∀ b b', (E.h.get b).isSome = true → (E.h.get b').isSome = true → (E.m b).1 = (E.m b').1 → b = b'
  size : X.w0.heap.size ≤ E.w.heap.size
  still : ∀ c, c < X.w0.heap.size → ¬ X.A c → E.w.heap[c]? = X.w0.heap[c]?
  os : E.w.os = X.w0.os
  tape : E.w.tape = X.w0.tape
  output : E.w.output = X.w0.output
  f1 : ∀ c, X.F1 c → c < X.w0.heap.size ∧ ¬ X.A c
  a0 : ∀ b c, X.A0 b c → PB ≤ b ∧ c < X.w0.heap.size
  hid : ∀ c o, X.H c = some o → E.w.heap[c]? = some o ∧ X.w0.heap.size ≤ c ∧ ¬ E.live c

/-- What a step keeps. -/
structure Ext (X : Cx) (E E' : Env) : Prop where
  ct : E.ct ≤ E'.ct
  cur : ∀ b g, g < E.ct → E'.h.cur b = some g → E.h.cur b = some g ∧ E'.m b = E.m b ∧
    ∀ cc e fr, E.w.heap[(E.m b).1]? = some (.cells cc e fr) → ∃ cc' e' fr', E'.w.heap[(E.m b).1]? = some (.cells cc' e' fr') ∧ cc'.size = cc.size
  ok : ∀ t c, c < E.w.heap.size → okc X E t c → okc X E' t c ∧ E'.w.heap[c]? = E.w.heap[c]?

theorem Ext.refl (X : Cx) (E : Env) : Ext X E E :=
  ⟨Nat.le_refl _, fun _ _ _ h => ⟨h, rfl, fun cc e fr h => ⟨cc, e, fr, h, rfl⟩⟩, fun _ _ _ h => ⟨h, rfl⟩⟩

theorem RR.ext {X : Cx} {E E' : Env} (h : Ext X E E') {a : AR} {v : Value} (r : RR X E a v) : RR X E' a v := by
  cases a with
  | i x => exact VR.mono h.ok r
  | ptr b g off =>
    obtain ⟨h1, h2, h3⟩ := r
    refine ⟨h1, Nat.lt_of_lt_of_le h2 h.ct, fun hc => ?_⟩
    obtain ⟨q1, q2, _⟩ := h.cur b g h2 hc
    rw [q2]; exact h3 q1
  | map b g =>
    obtain ⟨h1, h2, h3⟩ := r
    refine ⟨h1, Nat.lt_of_lt_of_le h2 h.ct, fun hc => ?_⟩
    obtain ⟨q1, q2, _⟩ := h.cur b g h2 hc
    rw [q2]; exact h3 q1
  | sl b g off sz len =>
    obtain ⟨h1, h2, h3⟩ := r
    refine ⟨h1, Nat.lt_of_lt_of_le h2 h.ct, fun hc => ?_⟩
    obtain ⟨q1, q2, q3⟩ := h.cur b g h2 hc
    rw [q2]
    obtain ⟨q4, q5⟩ := h3 q1
    refine ⟨q4, ?_⟩
    rcases q5 with ⟨cap, q5, q6, cs, e, fr, q7, q8⟩ | q5
    · obtain ⟨cc', e', fr', q9, q10⟩ := q3 cs e fr q7
      exact .inl ⟨cap, q5, q6, cc', e', fr', q9, by rw [q10]; exact q8⟩
    · exact .inr q5

theorem CC.ext {X : Cx} {E E' : Env} (h : Ext X E E') {a : AC} {v : Value} (r : CC X E a v) : CC X E' a v := by
  cases a with
  | r a => exact RR.ext h r
  | clo f caps =>
    obtain ⟨vs, e, r⟩ := r
    exact ⟨vs, e, r.mono fun _ _ => RR.ext h⟩

theorem A1R.ext {X : Cx} {E E' : Env} (h : Ext X E E') {a : A1} {v : Value} (r : A1R X E a v) : A1R X E' a v := by
  cases a with
  | c a => exact CC.ext h r
  | agg xs =>
    obtain ⟨vs, e, r⟩ := r
    exact ⟨vs, e, r.mono fun _ _ => CC.ext h⟩

theorem AVR.ext {X : Cx} {E E' : Env} (h : Ext X E E') {a : AV} {v : Value} (r : AVR X E a v) : AVR X E' a v := by
  cases a with
  | und => trivial
  | skp => exact r
  | v a => exact A1R.ext h r
  | tup l =>
    obtain ⟨vs, e, r⟩ := r
    exact ⟨vs, e, r.mono fun _ _ => A1R.ext h⟩

theorem EntR.ext {X : Cx} {E E' : Env} (h : Ext X E E') {a : Ent} {v : MapEntry} (r : EntR X E a v) : EntR X E' a v :=
  ⟨r.key.ext h, r.val.ext h, r.born⟩

theorem CC.one {X : Cx} {E : Env} {a : AC} {v : Value} (r : CC X E a v) : One v := by
  cases a with
  | r a => cases a with
    | i x => exact VR.one r
    | ptr => exact r.1
    | sl => exact r.1
    | map => exact r.1
  | clo f caps => obtain ⟨vs, rfl, _⟩ := r; rfl

theorem Ext.trans {X : Cx} {E E' E'' : Env} (h : Ext X E E') (k : Ext X E' E'') (hs : E.w.heap.size ≤ E'.w.heap.size) : Ext X E E'' := by
  refine ⟨Nat.le_trans h.ct k.ct, fun b g hg hc => ?_, fun t c hc ho => ?_⟩
  · obtain ⟨q1, q2, q3⟩ := k.cur b g (Nat.lt_of_lt_of_le hg h.ct) hc
    obtain ⟨p1, p2, p3⟩ := h.cur b g hg q1
    refine ⟨p1, q2.trans p2, fun cc e fr hcc => ?_⟩
    obtain ⟨cc', e', fr', r1, r2⟩ := p3 cc e fr hcc
    rw [p2] at q3
    obtain ⟨cc'', e'', fr'', r3, r4⟩ := q3 cc' e' fr' r1
    exact ⟨cc'', e'', fr'', r3, r4.trans r2⟩
  · obtain ⟨q1, q2⟩ := h.ok t c hc ho
    obtain ⟨p1, p2⟩ := k.ok t c (Nat.lt_of_lt_of_le hc hs) q1
    exact ⟨p1, p2.trans q2⟩

/- The abstract memory. -/
theorem Heap.get_set (h : Heap) (b : Nat) (y : Blk) (b' : Nat) : (h.set b y).get b' = if b' = b then some y else h.get b' := by
  induction h with
  | nil => simp only [Heap.set, Heap.get]; split <;> split <;> simp_all
  | cons p h ih =>
    obtain ⟨k, x⟩ := p
    simp only [Heap.set]
    by_cases e : k = b
    · subst e
      simp only [if_true, Heap.get]
      by_cases e' : k = b'
      · subst e'; simp
      · simp [e', Ne.symm e']
    · simp only [if_neg e, Heap.get, ih]
      by_cases e' : k = b'
      · subst e'; simp [e]
      · simp [e']

theorem Heap.get_del (h : Heap) (b : Nat) (b' : Nat) : (h.del b).get b' = if b' = b then none else h.get b' := by
  induction h with
  | nil => simp [Heap.del, Heap.get]
  | cons p h ih =>
    obtain ⟨k, x⟩ := p
    simp only [Heap.del]
    by_cases e : k = b
    · subst e
      simp only [if_true, ih, Heap.get]
      by_cases e' : b' = k
      · simp [e']
      · simp [e', Ne.symm e']
    · simp only [if_neg e, Heap.get, ih]
      by_cases e' : k = b'
      · subst e'; simp [e]
      · simp [e']

theorem Heap.get_delAll (bs : List Nat) : ∀ (h : Heap) (b : Nat), (delAll h bs).get b = if b ∈ bs then none else h.get b := by
  induction bs with
  | nil => intro h b; simp [delAll]
  | cons a bs ih =>
    intro h b
    simp only [delAll, ih, Heap.get_del]
    by_cases e : b ∈ bs
    · simp [e]
    · by_cases e' : b = a
      · simp [e']
      · simp [e, e']

theorem Heap.cur_set (h : Heap) (b : Nat) (y : Blk) (b' : Nat) : (h.set b y).cur b' = if b' = b then some y.gen else h.cur b' := by
  simp only [Heap.cur, Heap.get_set]; split <;> rfl

theorem Heap.cur_of_get {h : Heap} {b : Nat} {x : Blk} (e : h.get b = some x) : h.cur b = some x.gen := by simp [Heap.cur, e]

theorem Heap.row_eq {h : Heap} {b g : Nat} {cs : List AC} (e : h.row b g = some cs) : h.get b = some (.cells g cs) ∧ h.cur b = some g := by
  unfold Heap.row at e
  split at e
  · rename_i g' cs' hg
    split at e
    · rename_i eg; subst eg; simp at e; subst e; exact ⟨hg, by simp [Heap.cur, hg, Blk.gen]⟩
    · simp at e
  · simp at e

theorem Heap.mapAt_eq {h : Heap} {b g : Nat} {es : List Ent} {k : Nat} (e : h.mapAt b g = some (es, k)) : h.get b = some (.map g es k) ∧ h.cur b = some g := by
  unfold Heap.mapAt at e
  split at e
  · rename_i g' es' k' hg
    split at e
    · rename_i eg; subst eg; simp at e; obtain ⟨rfl, rfl⟩ := e; exact ⟨hg, by simp [Heap.cur, hg, Blk.gen]⟩
    · simp at e
  · simp at e

end Go.Abs
