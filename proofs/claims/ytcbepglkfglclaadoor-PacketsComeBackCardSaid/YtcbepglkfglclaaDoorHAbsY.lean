/-
  Typed data beside the abstract machine: which cells tell which data; slices in memory as lists.
-/
import Derived.Test.YtcbepglkfglclaaDoorHAbsX
namespace Go.Abs

theorem IV.retags_append (t : Nat) : ∀ a b : List IV, IV.retags t (a ++ b) = IV.retags t a ++ IV.retags t b
  | [], b => rfl
  | x :: a, b => by simp [IV.retags, IV.retags_append t a b]
theorem IV.retags_length (t : Nat) : ∀ a : List IV, (IV.retags t a).length = a.length
  | [] => rfl
  | x :: a => by simp [IV.retags, IV.retags_length t a]
theorem IV.freshs_append : ∀ a b : List IV, IV.freshs (a ++ b) = (IV.freshs a && IV.freshs b)
  | [], b => by simp [IV.freshs]
  | x :: a, b => by simp [IV.freshs, IV.freshs_append a b, Bool.and_assoc]

/-- How a type of plain data is told by cells ('true': every tag in them is 0). -/
structure Rep (α : Type) where
  sz : Nat
  rp : Bool → List IV → α → Prop
  len : ∀ {f c x}, rp f c x → c.length = sz
  retag : ∀ {f c x}, rp f c x → rp false (IV.retags 1 c) x
  fresh : ∀ {c x}, rp true c x → IV.freshs c = true
  weak : ∀ {f c x}, rp f c x → rp false c x

def Rep.int (k : IntKind) : Rep Int where
  sz := 1
  rp := fun _ c x => c = [.int k x]
  len := by rintro f c x rfl; rfl
  retag := by rintro f c x rfl; rfl
  fresh := by rintro c x rfl; rfl
  weak := by rintro f c x rfl; rfl
def Rep.bool : Rep Bool where
  sz := 1
  rp := fun _ c x => c = [.bool x]
  len := by rintro f c x rfl; rfl
  retag := by rintro f c x rfl; rfl
  fresh := by rintro c x rfl; rfl
  weak := by rintro f c x rfl; rfl
def Rep.str : Rep (List UInt8) where
  sz := 1
  rp := fun _ c x => c = [.str x]
  len := by rintro f c x rfl; rfl
  retag := by rintro f c x rfl; rfl
  fresh := by rintro c x rfl; rfl
  weak := by rintro f c x rfl; rfl
def Rep.unit : Rep Unit where
  sz := 0
  rp := fun _ c _ => c = []
  len := by rintro f c x rfl; rfl
  retag := by rintro f c x rfl; rfl
  fresh := by rintro c x rfl; rfl
  weak := by rintro f c x rfl; rfl
def Rep.prod {α β : Type} (A : Rep α) (B : Rep β) : Rep (α × β) where
  sz := A.sz + B.sz
  rp := fun f c x => ∃ a b, c = a ++ b ∧ A.rp f a x.1 ∧ B.rp f b x.2
  len := by rintro f c x ⟨a, b, rfl, h1, h2⟩; simp [A.len h1, B.len h2]
  retag := by rintro f c x ⟨a, b, rfl, h1, h2⟩; exact ⟨_, _, IV.retags_append _ _ _, A.retag h1, B.retag h2⟩
  fresh := by rintro c x ⟨a, b, rfl, h1, h2⟩; simp [IV.freshs_append, A.fresh h1, B.fresh h2]
  weak := by rintro f c x ⟨a, b, rfl, h1, h2⟩; exact ⟨_, _, rfl, A.weak h1, B.weak h2⟩
def Rep.of {α β : Type} (A : Rep α) (g : β → α) : Rep β where
  sz := A.sz
  rp := fun f c x => A.rp f c (g x)
  len := A.len
  retag := A.retag
  fresh := A.fresh
  weak := A.weak

section
variable {α : Type}

/-- The cells of a row of elements. -/
def rows (R : Rep α) (f : Bool) : List IV → List α → Prop
  | c, [] => c = []
  | c, x :: l => ∃ a b, c = a ++ b ∧ R.rp f a x ∧ rows R f b l

theorem rows_len {R : Rep α} {f : Bool} : ∀ {l : List α} {c : List IV}, rows R f c l → c.length = l.length * R.sz
  | [], c, h => by simp only [rows] at h; subst h; simp
  | x :: l, c, h => by
    obtain ⟨a, b, rfl, h1, h2⟩ := h
    rw [List.length_append, R.len h1, rows_len h2, List.length_cons, Nat.succ_mul, Nat.add_comm]
theorem rows_append {R : Rep α} {f : Bool} {m : List α} {d : List IV} (h2 : rows R f d m) : ∀ {l : List α} {c : List IV}, rows R f c l → rows R f (c ++ d) (l ++ m)
  | [], c, h => by simp only [rows] at h; subst h; exact h2
  | x :: l, c, h => by
    obtain ⟨a, b, rfl, h1, h3⟩ := h
    exact ⟨a, b ++ d, by simp, h1, rows_append h2 h3⟩
theorem rows_one {R : Rep α} {f : Bool} {c : List IV} {x : α} (h : R.rp f c x) : rows R f c [x] := ⟨c, [], by simp, h, rfl⟩
theorem rows_retag {R : Rep α} {f : Bool} : ∀ {l : List α} {c : List IV}, rows R f c l → rows R false (IV.retags 1 c) l
  | [], c, h => by simp only [rows] at h; subst h; rfl
  | x :: l, c, h => by
    obtain ⟨a, b, rfl, h1, h2⟩ := h
    exact ⟨_, _, IV.retags_append _ _ _, R.retag h1, rows_retag h2⟩
theorem rows_fresh {R : Rep α} : ∀ {l : List α} {c : List IV}, rows R true c l → IV.freshs c = true
  | [], c, h => by simp only [rows] at h; subst h; rfl
  | x :: l, c, h => by
    obtain ⟨a, b, rfl, h1, h2⟩ := h
    simp [IV.freshs_append, R.fresh h1, rows_fresh h2]
theorem rows_weak {R : Rep α} {f : Bool} : ∀ {l : List α} {c : List IV}, rows R f c l → rows R false c l
  | [], c, h => h
  | x :: l, c, h => by
    obtain ⟨a, b, rfl, h1, h2⟩ := h
    exact ⟨_, _, rfl, R.weak h1, rows_weak h2⟩
theorem rows_split {R : Rep α} {f : Bool} : ∀ {l : List α} {c : List IV} (n : Nat), rows R f c l → rows R f (c.take (n * R.sz)) (l.take n) ∧ rows R f (c.drop (n * R.sz)) (l.drop n)
  | [], c, n, h => by simp only [rows] at h; subst h; simp [rows]
  | x :: l, c, 0, h => by simp [rows] at h ⊢; exact h
  | x :: l, c, n + 1, h => by
    obtain ⟨a, b, rfl, h1, h2⟩ := h
    have ih := rows_split n h2
    have hl := R.len h1
    have e : (n + 1) * R.sz = a.length + n * R.sz := by rw [hl, Nat.succ_mul, Nat.add_comm]
    rw [e, List.take_length_add_append, List.drop_length_add_append]
    exact ⟨⟨a, _, rfl, h1, ih.1⟩, ih.2⟩
theorem rows_get {R : Rep α} {f : Bool} {l : List α} {c : List IV} {n : Nat} {x : α} (h : rows R f c l) (hx : l[n]? = some x) : R.rp f ((c.drop (n * R.sz)).take R.sz) x := by
  have h2 := (rows_split n h).2
  obtain ⟨hn, rfl⟩ := List.getElem?_eq_some_iff.1 hx
  rw [List.drop_eq_getElem_cons hn] at h2
  obtain ⟨a, b, e, h3, _⟩ := h2
  rw [e, ← R.len h3, List.take_left]
  exact h3
theorem rows_set {R : Rep α} {f : Bool} {l : List α} {c d : List IV} {n : Nat} {x : α} (h : rows R f c l) (hn : n < l.length) (hx : R.rp f d x) : rows R f (c.take (n * R.sz) ++ d ++ c.drop ((n + 1) * R.sz)) (l.set n x) := by
  have h1 := (rows_split n h).1
  have h2 := (rows_split (n + 1) h).2
  have e : l.set n x = l.take n ++ [x] ++ l.drop (n + 1) := by
    rw [List.set_eq_take_append_cons_drop, if_pos hn]; simp
  rw [e]
  exact rows_append h2 (rows_append (rows_one hx) h1)
theorem rows_replicate {R : Rep α} {f : Bool} {c : List IV} {x : α} (h : R.rp f c x) : ∀ n : Nat, rows R f (List.replicate n c).flatten (List.replicate n x)
  | 0 => rfl
  | n + 1 => ⟨c, _, by simp [List.replicate_succ], h, rows_replicate h n⟩
theorem repC_flat (z : List IV) : ∀ n, repC n z = ((List.replicate n z).flatten).map I
  | 0 => rfl
  | n + 1 => by simp [repC, repC_flat z n, List.replicate_succ]

/-- A slice that is told in place. -/
def sv (R : Rep α) (f : Bool) (v : IV) (l : List α) : Prop :=
  (v = .nilS ∧ l = []) ∨ (v = .emp ∧ l = []) ∨ ∃ t c, v = .lit t c l.length ∧ rows R f c l ∧ (f = true → t = 0)

def Rep.list (R : Rep α) : Rep (List α) where
  sz := 1
  rp := fun f c l => ∃ v, c = [v] ∧ sv R f v l
  len := by rintro f c x ⟨v, rfl, _⟩; rfl
  retag := by
    rintro f c x ⟨v, rfl, h⟩
    refine ⟨v.retag 1, rfl, ?_⟩
    rcases h with ⟨rfl, rfl⟩ | ⟨rfl, rfl⟩ | ⟨t, c, rfl, h1, h2⟩
    · exact .inl ⟨rfl, rfl⟩
    · exact .inr (.inl ⟨rfl, rfl⟩)
    · exact .inr (.inr ⟨1, _, rfl, rows_retag h1, by simp⟩)
  fresh := by
    rintro c x ⟨v, rfl, h⟩
    rcases h with ⟨rfl, rfl⟩ | ⟨rfl, rfl⟩ | ⟨t, c, rfl, h1, h2⟩
    · rfl
    · rfl
    · simp [IV.freshs, IV.fresh, rows_fresh h1, h2 rfl]
  weak := by
    rintro f c x ⟨v, rfl, h⟩
    refine ⟨v, rfl, ?_⟩
    rcases h with ⟨rfl, rfl⟩ | ⟨rfl, rfl⟩ | ⟨t, c, rfl, h1, h2⟩
    · exact .inl ⟨rfl, rfl⟩
    · exact .inr (.inl ⟨rfl, rfl⟩)
    · exact .inr (.inr ⟨t, _, rfl, rows_weak h1, by simp⟩)

theorem sv_nil (R : Rep α) (f : Bool) : sv R f .nilS [] := .inl ⟨rfl, rfl⟩
theorem sv_lit {R : Rep α} {c : List IV} {l : List α} {n : Nat} (f : Bool) (h : rows R f c l) (hn : n = l.length) : sv R f (.lit 0 c n) l := .inr (.inr ⟨0, c, by rw [hn], h, fun _ => rfl⟩)
theorem sv_retag {R : Rep α} {f : Bool} {v : IV} {l : List α} (h : sv R f v l) : sv R false (v.retag 1) l := by
  obtain ⟨w, e, h⟩ := R.list.retag (f := f) (c := [v]) (x := l) ⟨v, rfl, h⟩
  simp [IV.retags] at e
  rw [e]; exact h
theorem sv_weak {R : Rep α} {f : Bool} {v : IV} {l : List α} (h : sv R f v l) : sv R false v l := by
  obtain ⟨w, e, h⟩ := R.list.weak (f := f) (c := [v]) (x := l) ⟨v, rfl, h⟩
  simp at e
  rw [e]; exact h
theorem sv_fresh {R : Rep α} {v : IV} {l : List α} (h : sv R true v l) : v.fresh = true := by
  have := R.list.fresh (c := [v]) (x := l) ⟨v, rfl, h⟩
  simpa [IV.freshs] using this

/-- A slice of a block of one's own, at one of the places P (or none yet). -/
def so (P : List Nat) (R : Rep α) (f : Bool) (hp : Heap) (a : AC) (l : List α) : Prop :=
  (a = I .nilS ∧ l = []) ∨ (a = I .emp ∧ l = []) ∨
    ∃ (b g off : Nat) (cs c : List IV), b ∈ P ∧ a = .r (.sl b g off R.sz l.length) ∧ hp.row b g = some (cs.map I) ∧ rows R f c l ∧ off + l.length * R.sz ≤ cs.length ∧ (cs.drop off).take (l.length * R.sz) = c

/-- A slice: of a block of one's own, or told in place. -/
def sa (P : List Nat) (R : Rep α) (f : Bool) (hp : Heap) (a : AC) (l : List α) : Prop :=
  (∃ v, a = I v ∧ sv R f v l) ∨ so P R f hp a l

theorem so.any {P : List Nat} {R : Rep α} {f : Bool} {hp : Heap} {a : AC} {l : List α} (h : so P R f hp a l) : sa P R f hp a l := .inr h
theorem sv.any {R : Rep α} {f : Bool} {v : IV} {l : List α} (P : List Nat) (hp : Heap) (h : sv R f v l) : sa P R f hp (I v) l := .inl ⟨v, rfl, h⟩
theorem so_nil (P : List Nat) (R : Rep α) (f : Bool) (hp : Heap) : so P R f hp (I .nilS) [] := .inl ⟨rfl, rfl⟩

/-- What of memory is as it was. -/
def Fr (P : List Nat) (hp hp' : Heap) : Prop := ∀ b, b ∉ P → hp'.get b = hp.get b
theorem Fr.refl (P : List Nat) (hp : Heap) : Fr P hp hp := fun _ _ => rfl
theorem Fr.trans {P Q : List Nat} {hp hp' hp'' : Heap} (h : Fr P hp hp') (k : Fr Q hp' hp'') (hP : P.all (Q.contains ·) = true) : Fr Q hp hp'' := fun b hb =>
  (k b hb).trans (h b fun hin => hb (by have := List.all_eq_true.1 hP b hin; simpa using this))
theorem Fr.set (b : Nat) (x : Blk) (hp : Heap) : Fr [b] hp (hp.set b x) := fun c hc => by rw [Heap.get_set]; simp at hc; simp [hc]
theorem Fr.row {P : List Nat} {hp hp' : Heap} (h : Fr P hp hp') {b g : Nat} (hb : b ∉ P) : hp'.row b g = hp.row b g := by simp [Heap.row, h b hb]

theorem so.fr {P Q : List Nat} {R : Rep α} {f : Bool} {hp hp' : Heap} {a : AC} {l : List α} (h : so P R f hp a l) (k : Fr Q hp hp') (hd : P.all (fun b => !Q.contains b) = true) : so P R f hp' a l := by
  rcases h with h | h | ⟨b, g, off, cs, c, hb, h1, h2, h3⟩
  · exact .inl h
  · exact .inr (.inl h)
  · have := List.all_eq_true.1 hd b hb
    exact .inr (.inr ⟨b, g, off, cs, c, hb, h1, by rw [k.row (by simpa using this)]; exact h2, h3⟩)
theorem sa.fr {P Q : List Nat} {R : Rep α} {f : Bool} {hp hp' : Heap} {a : AC} {l : List α} (h : sa P R f hp a l) (k : Fr Q hp hp') (hd : P.all (fun b => !Q.contains b) = true) : sa P R f hp' a l := by
  rcases h with h | h
  · exact .inl h
  · exact .inr (h.fr k hd)
theorem so.wide {P Q : List Nat} {R : Rep α} {f : Bool} {hp : Heap} {a : AC} {l : List α} (h : so P R f hp a l) (hd : P.all (Q.contains ·) = true) : so Q R f hp a l := by
  rcases h with h | h | ⟨b, g, off, cs, c, hb, h1, h2, h3⟩
  · exact .inl h
  · exact .inr (.inl h)
  · have := List.all_eq_true.1 hd b hb
    exact .inr (.inr ⟨b, g, off, cs, c, by simpa using this, h1, h2, h3⟩)
theorem sa.wide {P Q : List Nat} {R : Rep α} {f : Bool} {hp : Heap} {a : AC} {l : List α} (h : sa P R f hp a l) (hd : P.all (Q.contains ·) = true) : sa Q R f hp a l := by
  rcases h with h | h
  · exact .inl h
  · exact .inr (h.wide hd)

/-- The cells of a slice. -/
theorem sa.cells {P : List Nat} {R : Rep α} {f : Bool} {hp : Heap} {a : AC} {l : List α} (h : sa P R f hp a l) : ∃ c, rows R f c l ∧ slCells hp R.sz a = some (c.map I, l.length) := by
  rcases h with ⟨v, rfl, ⟨rfl, rfl⟩ | ⟨rfl, rfl⟩ | ⟨t, c, rfl, h1, _⟩⟩ | ⟨rfl, rfl⟩ | ⟨rfl, rfl⟩ | ⟨b, g, off, cs, c, hb, rfl, h2, h3, h4, h5⟩
  · exact ⟨[], rfl, rfl⟩
  · exact ⟨[], rfl, rfl⟩
  · exact ⟨c, h1, by simp [slCells, rows_len h1]⟩
  · exact ⟨[], rfl, rfl⟩
  · exact ⟨[], rfl, rfl⟩
  · exact ⟨c, h3, by simp [slCells, h2, h4, ← List.map_drop, ← List.map_take, h5]⟩

theorem rd_rows {q : Nat → Bool} {hp : Heap} {t n b g off sz len : Nat} {cs : List IV} {c : List IV} (hq : q b = true) (h2 : hp.row b g = some (cs.map I)) (h4 : off + len * sz ≤ cs.length) (h5 : (cs.drop off).take (len * sz) = c) :
    rd q hp t (n + 1) (.r (.sl b g off sz len)) = some (.lit t c len) := by
  simp only [rd, hq, if_true, h2, List.length_map, h4, ← List.map_drop, ← List.map_take, h5, rd_inls]

/-- A slice that is lent to a call. -/
theorem sa.lend {P : List Nat} {R : Rep α} {f : Bool} {hp : Heap} {a : AC} {l : List α} (h : sa P R f hp a l) (ids : List Nat) (hi : P.all (fun b => !ids.contains b) = true) : ∃ v, to1 true hp ids (.c a) = some (.c (I v)) ∧ sv R false v l := by
  rcases h with ⟨v, rfl, h⟩ | ⟨rfl, rfl⟩ | ⟨rfl, rfl⟩ | ⟨b, g, off, cs, c, hb, rfl, h2, h3, h4, h5⟩
  · exact ⟨v.retag 1, rfl, sv_retag h⟩
  · exact ⟨.nilS, rfl, .inl ⟨rfl, rfl⟩⟩
  · exact ⟨.emp, rfl, .inr (.inl ⟨rfl, rfl⟩)⟩
  · have hn : ∀ {ids : List Nat} {b : Nat}, b ∉ ids → idxOf ids b = none := by
      intro ids b
      induction ids with
      | nil => intro _; rfl
      | cons k ids ih => intro hh; simp at hh; simp [idxOf, Ne.symm hh.1, ih hh.2]
    have hb' : b ∉ ids := by have := List.all_eq_true.1 hi b hb; simpa using this
    have hr : rd (fun b => (idxOf ids b).isNone) hp 1 rdDepth (.r (.sl b g off R.sz l.length)) = some (.lit 1 c l.length) := rd_rows (n := 5) (by simp [hn hb']) h2 h4 h5
    refine ⟨(IV.lit 1 c l.length).retag 1, ?_, sv_retag (f := false) (.inr (.inr ⟨1, c, rfl, rows_weak h3, by simp⟩))⟩
    simp [to1, toC, toR, hn hb']
    simp [hr]

/-- A slice that is given back. -/
theorem sa.back {P : List Nat} {R : Rep α} {f : Bool} {hp : Heap} {a : AC} {l : List α} (h : sa P R f hp a l) (lent : Bool) (hl : lent = true → f = true) (pl : List (Nat × Nat × Nat)) (hpl : P.all (fun b => (backAt pl b).isNone) = true) :
    ∃ v, backC hp pl lent a = some (I v) ∧ sv R f v l := by
  have hfr : ∀ v, sv R f v l → (lent && !v.fresh) = false := fun v hv => by
    cases lent with
    | false => rfl
    | true => have := hl rfl; subst this; simp [sv_fresh hv]
  rcases h with ⟨v, rfl, h⟩ | ⟨rfl, rfl⟩ | ⟨rfl, rfl⟩ | ⟨b, g, off, cs, c, hb, rfl, h2, h3, h4, h5⟩
  · exact ⟨v, by simp [backC, backR, hfr v h], h⟩
  · exact ⟨.nilS, by simp [backC, backR, IV.fresh], .inl ⟨rfl, rfl⟩⟩
  · exact ⟨.emp, by simp [backC, backR, IV.fresh], .inr (.inl ⟨rfl, rfl⟩)⟩
  · have hb' := List.all_eq_true.1 hpl b hb
    have hr : rd (fun b => (backAt pl b).isNone) hp 0 rdDepth (.r (.sl b g off R.sz l.length)) = some (.lit 0 c l.length) := rd_rows (n := 5) hb' h2 h4 h5
    have hv : sv R f (.lit 0 c l.length) l := .inr (.inr ⟨0, c, rfl, h3, fun _ => rfl⟩)
    refine ⟨.lit 0 c l.length, ?_, hv⟩
    simp at hb'
    have hf := hfr _ hv
    simp [backC, backR, hb', hr, hf]

theorem backC_inl {hp : Heap} {pl : List (Nat × Nat × Nat)} {lent : Bool} {v : IV} (h : lent = true → v.fresh = true) : backC hp pl lent (I v) = some (I v) := by
  have : (lent && !v.fresh) = false := by cases lent <;> simp; exact h rfl
  simp [backC, backR, this]

end
end Go.Abs
