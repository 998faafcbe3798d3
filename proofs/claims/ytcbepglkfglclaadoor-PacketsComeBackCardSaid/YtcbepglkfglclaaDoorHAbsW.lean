/-
  The abstract machine, stepped through: what must hold before code so that something holds behind it.
-/
import Derived.Test.YtcbepglkfglclaaDoorHAbsV
import Derived.Test.YtcbepglkfglclaaDoorHAbsP
namespace Go.Abs

abbrev Sl := Nat → AV
def upd (σ : Sl) (d : Nat) (v : AV) : Sl := fun t => if t = d then v else σ t
def updO (σ : Sl) (d : Option Nat) (v : AV) : Sl := match d with | some d => upd σ d v | none => σ
def mkS (nt : Nat) (σ : Sl) (hp : Heap) (ct : Nat) : St := { tm := (List.range nt).map σ, hp := hp, ct := ct }
def evσ (nt : Nat) (σ : Sl) : Opd → AV
  | .t n => if n < nt then σ n else .und
  | .c v => V v
  | .ca l => .v (.agg (l.map I))

theorem upd_same (σ : Sl) (d : Nat) (v : AV) : upd σ d v d = v := by simp [upd]
theorem upd_ne {σ : Sl} {d t : Nat} {v : AV} (h : t ≠ d) : upd σ d v t = σ t := by simp [upd, h]

section
variable {nt : Nat} {σ : Sl} {hp : Heap} {ct : Nat} {G : Nat → List IV} {R : Run}

theorem mkS_hp : (mkS nt σ hp ct).hp = hp := rfl
theorem mkS_ct : (mkS nt σ hp ct).ct = ct := rfl

theorem get_mk (n : Nat) : (mkS nt σ hp ct).get n = if n < nt then σ n else .und := by
  simp only [mkS, St.get, List.getD_eq_getElem?_getD, List.getElem?_map]
  split
  · rename_i h; simp [List.getElem?_range h]
  · rename_i h; simp [List.getElem?_eq_none (l := List.range nt) (by simpa using Nat.le_of_not_lt h)]

theorem ev_mk (x : Opd) : ev (mkS nt σ hp ct) x = evσ nt σ x := by
  cases x <;> simp [ev, evσ, get_mk]

theorem with_mk (d : Option Nat) (r : AV × Heap × Nat) : (mkS nt σ hp ct).with d r = mkS nt (updO σ d r.1) r.2.1 r.2.2 := by
  cases d with
  | none => rfl
  | some d =>
    simp only [St.with, St.put, mkS, updO]
    congr 1
    apply List.ext_getElem?
    intro i
    by_cases h : i = d
    · subst h
      by_cases hi : i < nt
      · rw [List.getElem?_set_self (by simpa using hi)]
        simp [List.getElem?_range hi, upd]
      · rw [List.getElem?_eq_none (by simpa using Nat.le_of_not_lt hi), List.getElem?_eq_none (by simpa using Nat.le_of_not_lt hi)]
    · rw [List.getElem?_set_ne (Ne.symm h)]
      by_cases hi : i < nt
      · simp [List.getElem?_range hi, upd, h]
      · rw [List.getElem?_eq_none (by simpa using Nat.le_of_not_lt hi), List.getElem?_eq_none (by simpa using Nat.le_of_not_lt hi)]

def wantσ (nt : Nat) (σ : Sl) : Option (Nat × Bool) → Option Bool
  | none => some true
  | some (t, b) => match evσ nt σ (.t t) with
    | .v (.c (.r (.i (.bool c)))) => some (c == b)
    | .skp => some false
    | _ => none

theorem want_mk (g : Option (Nat × Bool)) : want (mkS nt σ hp ct) g = wantσ nt σ g := by
  cases g with
  | none => rfl
  | some p =>
    simp only [want, wantσ, get_mk, evσ]
    rfl

/-- What a pure call gives back. -/
def pureCall (R : Run) (f : Nat) (as : List A1) (lent : Bool) : Option (List A1) :=
  match R f as [] with
  | some (rs, h) => traverse (back1 h [] lent) rs
  | none => none

/-- One operation. -/
def wpI (G : Nat → List IV) (R : Run) (nt : Nat) (σ : Sl) (hp : Heap) (ct : Nat) (i : Ins) (Q : Sl → Heap → Nat → Prop) : Prop :=
  ∃ σ' hp' ct', insI G R (mkS nt σ hp ct) i = some (mkS nt σ' hp' ct') ∧ Q σ' hp' ct'

def wpX (G : Nat → List IV) (R : Run) (nt : Nat) (l : List Ins) (σ : Sl) (hp : Heap) (ct : Nat) (Q : Sl → Heap → Nat → Prop) : Prop :=
  ∃ σ' hp' ct', insL G R l (mkS nt σ hp ct) = some (mkS nt σ' hp' ct') ∧ Q σ' hp' ct'

theorem wpX_nil {Q : Sl → Heap → Nat → Prop} (h : Q σ hp ct) : wpX G R nt [] σ hp ct Q := ⟨σ, hp, ct, rfl, h⟩

theorem wpX_op {Q : Sl → Heap → Nat → Prop} {d : Option Nat} {k : K} {l : List Ins} {v : AV} {hp' : Heap} {ct' : Nat} (hk : opK G R (mkS nt σ hp ct) (d.getD 0) k = some (v, hp', ct'))
    (h : wpX G R nt l (updO σ d v) hp' ct' Q) : wpX G R nt (.op d none k :: l) σ hp ct Q := by
  obtain ⟨σ2, hp2, ct2, h1, h2⟩ := h
  refine ⟨σ2, hp2, ct2, ?_, h2⟩
  simp only [insL, insI, insV, want, hk, with_mk]
  exact h1

theorem wpX_opG {Q : Sl → Heap → Nat → Prop} {d : Option Nat} {g : Option (Nat × Bool)} {k : K} {l : List Ins} {v : AV} {hp' : Heap} {ct' : Nat} (hg : wantσ nt σ g = some true) (hk : opK G R (mkS nt σ hp ct) (d.getD 0) k = some (v, hp', ct'))
    (h : wpX G R nt l (updO σ d v) hp' ct' Q) : wpX G R nt (.op d g k :: l) σ hp ct Q := by
  obtain ⟨σ2, hp2, ct2, h1, h2⟩ := h
  refine ⟨σ2, hp2, ct2, ?_, h2⟩
  simp only [insL, insI, insV, want_mk, hg, hk, with_mk]
  exact h1

theorem wpX_opF {Q : Sl → Heap → Nat → Prop} {d : Option Nat} {g : Option (Nat × Bool)} {k : K} {l : List Ins} (hg : wantσ nt σ g = some false)
    (h : wpX G R nt l (updO σ d .skp) hp ct Q) : wpX G R nt (.op d g k :: l) σ hp ct Q := by
  obtain ⟨σ2, hp2, ct2, h1, h2⟩ := h
  refine ⟨σ2, hp2, ct2, ?_, h2⟩
  simp only [insL, insI, insV, want_mk, hg, mkS_hp, mkS_ct, with_mk]
  exact h1

/-- Code. -/
def wpE (G : Nat → List IV) (R : Run) (nt : Nat) (c : IR) (σ : Sl) (hp : Heap) (ct : Nat) (Q : Ex → Sl → Heap → Nat → Prop) : Prop :=
  ∃ n ex σ' hp' ct', exec G R n c (mkS nt σ hp ct) = some (ex, mkS nt σ' hp' ct') ∧ Q ex σ' hp' ct'

theorem Run.le_refl (R : Run) : R.le R := fun _ _ _ _ h => h

theorem wpE_mono {c : IR} {Q Q' : Ex → Sl → Heap → Nat → Prop} (h : wpE G R nt c σ hp ct Q) (hQ : ∀ ex σ hp ct, Q ex σ hp ct → Q' ex σ hp ct) : wpE G R nt c σ hp ct Q' := by
  obtain ⟨n, ex, σ', hp', ct', h1, h2⟩ := h
  exact ⟨n, ex, σ', hp', ct', h1, hQ _ _ _ _ h2⟩

theorem wpE_skip {Q : Ex → Sl → Heap → Nat → Prop} (h : Q .normal σ hp ct) : wpE G R nt .skip σ hp ct Q := ⟨0, .normal, σ, hp, ct, rfl, h⟩
theorem wpE_ret {Q : Ex → Sl → Heap → Nat → Prop} (h : Q .ret σ hp ct) : wpE G R nt .ret σ hp ct Q := ⟨0, .ret, σ, hp, ct, rfl, h⟩
theorem wpE_exit {i : Nat} {Q : Ex → Sl → Heap → Nat → Prop} (h : Q (.exit i) σ hp ct) : wpE G R nt (.exit i) σ hp ct Q := ⟨0, .exit i, σ, hp, ct, rfl, h⟩

theorem wpE_reg {l : List Ins} {Q : Ex → Sl → Heap → Nat → Prop} (h : wpX G R nt l σ hp ct (Q .normal)) : wpE G R nt (.reg l) σ hp ct Q := by
  obtain ⟨σ', hp', ct', h1, h2⟩ := h
  exact ⟨0, .normal, σ', hp', ct', by simp [exec, h1], h2⟩

/-- What is done behind the first part. -/
def andThen (G : Nat → List IV) (R : Run) (nt : Nat) (b : IR) (Q : Ex → Sl → Heap → Nat → Prop) : Ex → Sl → Heap → Nat → Prop
  | .normal, σ, hp, ct => wpE G R nt b σ hp ct Q
  | ex, σ, hp, ct => Q ex σ hp ct

theorem wpE_seq {a b : IR} {Q : Ex → Sl → Heap → Nat → Prop} (h : wpE G R nt a σ hp ct (andThen G R nt b Q)) : wpE G R nt (.seq a b) σ hp ct Q := by
  obtain ⟨n, ex, σ', hp', ct', h1, h2⟩ := h
  cases ex with
  | normal =>
    obtain ⟨m, ex2, σ2, hp2, ct2, h3, h4⟩ := h2
    refine ⟨max n m, ex2, σ2, hp2, ct2, ?_, h4⟩
    simp only [exec]
    rw [exec_mono R.le_refl (Nat.le_max_left n m) h1]
    exact exec_mono R.le_refl (Nat.le_max_right n m) h3
  | _ => exact ⟨n, _, σ', hp', ct', by simp only [exec, h1], h2⟩

theorem wpE_cond {x : Opd} {a b : IR} {Q : Ex → Sl → Heap → Nat → Prop} {p : Bool} (hx : evσ nt σ x = V (.bool p)) (h1 : p = true → wpE G R nt a σ hp ct Q) (h2 : p = false → wpE G R nt b σ hp ct Q) : wpE G R nt (.cond x a b) σ hp ct Q := by
  cases p with
  | true =>
    obtain ⟨n, ex, σ', hp', ct', h3, h4⟩ := h1 rfl
    exact ⟨n, ex, σ', hp', ct', by simp only [exec, ev_mk, hx, AV.bool, h3], h4⟩
  | false =>
    obtain ⟨n, ex, σ', hp', ct', h3, h4⟩ := h2 rfl
    exact ⟨n, ex, σ', hp', ct', by simp only [exec, ev_mk, hx, AV.bool, h3], h4⟩

/-- The same, for 'simp'. -/
theorem wpE_if {x : Opd} {a b : IR} {Q : Ex → Sl → Heap → Nat → Prop} (h : ∃ p, (evσ nt σ x).bool = some p ∧ (p = true → wpE G R nt a σ hp ct Q) ∧ (p = false → wpE G R nt b σ hp ct Q)) : wpE G R nt (.cond x a b) σ hp ct Q := by
  obtain ⟨p, hx, h1, h2⟩ := h
  refine wpE_cond ?_ h1 h2
  unfold AV.bool at hx
  split at hx
  · rename_i b h; simp at hx; subst hx; exact h
  · simp at hx

def inBlk (id : Nat) (Q : Ex → Sl → Heap → Nat → Prop) : Ex → Sl → Heap → Nat → Prop
  | .exit i, σ, hp, ct => Q (if i = id then .normal else .exit i) σ hp ct
  | ex, σ, hp, ct => Q ex σ hp ct

theorem wpE_block {id : Nat} {a : IR} {Q : Ex → Sl → Heap → Nat → Prop} (h : wpE G R nt a σ hp ct (inBlk id Q)) : wpE G R nt (.block id a) σ hp ct Q := by
  obtain ⟨n, ex, σ', hp', ct', h1, h2⟩ := h
  cases ex with
  | exit i => exact ⟨n, _, σ', hp', ct', by simp only [exec, h1], h2⟩
  | _ => exact ⟨n, _, σ', hp', ct', by simp only [exec, h1], h2⟩

/-- Once more round. -/
def again (I : Nat → Sl → Heap → Nat → Prop) (m : Nat) (Q : Ex → Sl → Heap → Nat → Prop) : Ex → Sl → Heap → Nat → Prop
  | .normal, σ, hp, ct => ∃ m', m' < m ∧ I m' σ hp ct
  | ex, σ, hp, ct => Q ex σ hp ct

/-- A LOOP, by what holds before each round ('m': falls from round to round). -/
theorem wpE_loop {a : IR} {Q : Ex → Sl → Heap → Nat → Prop} (I : Nat → Sl → Heap → Nat → Prop) (m : Nat) (h0 : I m σ hp ct) (hs : ∀ m σ hp ct, I m σ hp ct → wpE G R nt a σ hp ct (again I m Q)) : wpE G R nt (.loop a) σ hp ct Q := by
  have key : ∀ (m : Nat) (σ : Sl) (hp : Heap) (ct : Nat), I m σ hp ct → ∃ n ex σ' hp' ct', (∀ k, n ≤ k → loopN (exec G R k a) n (mkS nt σ hp ct) = some (ex, mkS nt σ' hp' ct')) ∧ Q ex σ' hp' ct' := by
    intro m
    induction m using Nat.strongRecOn with
    | _ m ih =>
      intro σ hp ct hI
      obtain ⟨n, ex, σ', hp', ct', h1, h2⟩ := hs m σ hp ct hI
      cases ex with
      | normal =>
        obtain ⟨m', hlt, hI'⟩ := h2
        obtain ⟨n2, ex2, σ2, hp2, ct2, h3, h4⟩ := ih m' hlt σ' hp' ct' hI'
        refine ⟨max n n2 + 1, ex2, σ2, hp2, ct2, fun k hk => ?_, h4⟩
        simp only [loopN]
        rw [exec_mono R.le_refl (by omega : n ≤ k) h1]
        exact loopN_mono (fun s r h => exec_mono R.le_refl (by omega : k ≤ k) h) (Nat.le_max_right n n2) (h3 k (by omega))
      | _ =>
        refine ⟨n + 1, _, σ', hp', ct', fun k hk => ?_, h2⟩
        simp only [loopN]
        rw [exec_mono R.le_refl (by omega : n ≤ k) h1]
  obtain ⟨n, ex, σ', hp', ct', h1, h2⟩ := key m σ hp ct h0
  exact ⟨n, ex, σ', hp', ct', by simp only [exec]; exact h1 n (Nat.le_refl _), h2⟩

end

/- A region that draws, where the order can tell nothing. -/
def K.memless : K → Bool
  | .mov .. | .pick .. | .fld .. | .idx .. | .idxS .. | .bin .. | .eqB .. | .eqv .. | .un .. | .cvI .. | .cvIS .. | .cvSS .. | .build .. | .slcS .. | .lenA .. | .mx .. | .mn .. | .ext .. | .galloc .. | .gsto .. => true
  | _ => false

def Ins.memless : Ins → Bool
  | .op _ _ k => k.memless
  | _ => false

def drawFree (l : List Ins) (pre : List (List Nat)) : Bool :=
  l.all Ins.isOp && (List.range l.length).all fun i => match l[i]? with
    | some x => x.turns || (loOf l pre i == hiOf l pre i || x.memless)
    | none => false

section
variable {G : Nat → List IV} {R : Run}

theorem step_memless {s s' : St} (ht : s'.tm = s.tm) {d : Nat} {k : K} (hk : k.memless = true) {r : AV × Heap × Nat} (e : opK G R s d k = some r) : ∃ r', opK G R s' d k = some r' ∧ r'.1 = r.1 := by
  have hev : ∀ x, ev s' x = ev s x := fun x => ev_congr fun t _ => by simp [St.get, ht]
  have hevs : ev s' = ev s := funext hev
  have hbd : ∀ d x, bound d s' x = bound d s x := fun d x => bound_congr fun t _ => by simp [St.get, ht]
  have hokv : ∀ {v : Option IV} {r : AV × Heap × Nat}, okv s v = some r → ∃ r', okv s' v = some r' ∧ r'.1 = r.1 := fun {v r} h => by
    cases v <;> simp [okv] at h ⊢
    rw [← h]
  have hok1 : ∀ {v : Option A1} {r : AV × Heap × Nat}, ok1 s v = some r → ∃ r', ok1 s' v = some r' ∧ r'.1 = r.1 := fun {v r} h => by
    cases v <;> simp [ok1] at h ⊢
    rw [← h]
  have hsome : ∀ {v : AV} {r : AV × Heap × Nat}, some (v, s.hp, s.ct) = some r → ∃ r', some (v, s'.hp, s'.ct) = some r' ∧ r'.1 = r.1 := fun {v r} h => by
    simp at h ⊢
    rw [← h]
  have hmap : ∀ {v : Option AV} {r : AV × Heap × Nat}, (v.map fun v => (v, s.hp, s.ct)) = some r → ∃ r', (v.map fun v => (v, s'.hp, s'.ct)) = some r' ∧ r'.1 = r.1 := fun {v r} h => by
    cases v <;> simp at h ⊢
    rw [← h]
  cases k <;> simp [K.memless] at hk
  case build z ps l =>
    have e1 : traverse (fun p : Nat × Opd => (ev s' p.2).one.map fun a => (p.1, a)) l = traverse (fun p : Nat × Opd => (ev s p.2).one.map fun a => (p.1, a)) l :=
      traverse_congr fun x _ => by rw [hev]
    simp only [opK, step, e1] at e ⊢
    split at e
    · exact hok1 e
    · simp at e
  case galloc n t =>
    have hg : s'.get t = s.get t := by simp [St.get, ht]
    simp only [opK, step, ht, hg] at e ⊢
    by_cases hl : t < s.tm.length
    · simp only [if_pos hl] at e ⊢
      cases hq : s.get t with
      | und => simp only [hq] at e ⊢; exact hsome e
      | _ => simp [hq] at e
    · simp [if_neg hl] at e
  case gsto n x =>
    simp only [opK, step, hev] at e ⊢
    cases hq : ev s x with
    | v w =>
      simp only [hq] at e ⊢
      by_cases hl : w.cells.length = n
      · simp only [if_pos hl] at e ⊢
        cases hi : traverse cellI w.cells with
        | none => simp [hi] at e
        | some is => simp only [hi] at e ⊢; exact hsome e
      · simp [if_neg hl] at e
    | _ => simp [hq] at e
  all_goals
    simp only [opK, step, hev, hevs, hbd] at e ⊢
    repeat' split at e
    all_goals first | exact hokv e | exact hok1 e | exact hsome e | exact hmap e | exact absurd e (by simp) | (rw [if_pos (by assumption)]; first | exact hokv e | exact hok1 e | exact hsome e) | (rename_i hneg; simp only [hneg, if_true] ; exact hokv e) | (rename_i hneg; simp only [hneg, if_false, Bool.false_eq_true] ; exact hokv e)

theorem insV_memless {s s' : St} (ht : s'.tm = s.tm) {d : Option Nat} {g : Option (Nat × Bool)} {k : K} (hk : k.memless = true) {r : AV × Heap × Nat} (e : insV G R s d g k = some r) : ∃ r', insV G R s' d g k = some r' ∧ r'.1 = r.1 := by
  have hw : want s' g = want s g := by
    cases g with
    | none => rfl
    | some p => simp only [want, St.get, ht]
  simp only [insV, hw] at e ⊢
  split at e
  · exact step_memless ht hk e
  · simp at e; subst e; exact ⟨_, rfl, rfl⟩
  · simp at e

mutual
theorem eqIV_refl : ∀ x : IV, eqIV x x = true
  | .bool a => by simp [eqIV]
  | .int k a => by simp [eqIV]
  | .str a => by simp [eqIV]
  | .nilS => rfl
  | .emp => rfl
  | .nilP => rfl
  | .nilM => rfl
  | .nilF => rfl
  | .nilI => rfl
  | .lit t a n => by simp [eqIV, eqIVs_refl a]
  | .lp t a => by simp [eqIV, eqIVs_refl a]
  | .gp g o => by simp [eqIV]
  | .clo f a => by simp [eqIV, eqIVs_refl a]
theorem eqIVs_refl : ∀ x : List IV, eqIVs x x = true
  | [] => rfl
  | x :: l => by simp [eqIVs, eqIV_refl x, eqIVs_refl l]
end
theorem eqL_refl {α : Type} {f : α → α → Bool} (hf : ∀ x, f x x = true) : ∀ l : List α, eqL f l l = true
  | [] => rfl
  | x :: l => by simp [eqL, hf, eqL_refl hf l]
theorem eqAR_refl (x : AR) : eqAR x x = true := by cases x <;> simp [eqAR, eqIV_refl]
theorem eqAC_refl (x : AC) : eqAC x x = true := by cases x <;> simp [eqAC, eqAR_refl, eqL_refl eqAR_refl]
theorem eqA1_refl (x : A1) : eqA1 x x = true := by cases x <;> simp [eqA1, eqAC_refl, eqL_refl eqAC_refl]
theorem eqAV_refl (x : AV) : eqAV x x = true := by cases x <;> simp [eqAV, eqA1_refl, eqL_refl eqA1_refl]

theorem trail_of : ∀ {l : List Ins} {s s' : St}, insL G R l s = some s' → ∃ ss hs, trail G R l s = some (ss, hs) ∧ ss.getLast? = some s'
  | [], s, s', e => by simp [insL] at e; subst e; exact ⟨[s], [(s.hp, s.ct)], rfl, rfl⟩
  | x :: l, s, s', e => by
    simp only [insL] at e
    split at e
    · rename_i s1 h1
      obtain ⟨ss, hs, h2, h3⟩ := trail_of e
      refine ⟨s :: ss, if x.turns then (s.hp, s.ct) :: hs else hs, by simp only [trail, h1, h2], ?_⟩
      cases ss with
      | nil => simp at h3
      | cons a b => simpa using h3
    · simp at e

theorem drawDyn_free {l : List Ins} {pre : List (List Nat)} (hf : drawFree l pre = true) (hd : Draw l pre) {s : St} {ss : List St} {hs : List (Heap × Nat)} (ht : trail G R l s = some (ss, hs)) : drawDyn G R l pre ss hs = true := by
  simp only [drawFree, Bool.and_eq_true, List.all_eq_true, List.mem_range] at hf
  have C := Canon.of hf.1 ht
  simp only [drawDyn, List.all_eq_true, List.mem_range]
  intro i hi
  have hfi := hf.2 i hi
  obtain ⟨x, hx⟩ : ∃ x, l[i]? = some x := ⟨l[i], by simp [hi]⟩
  obtain ⟨s1, s2, h1, h2, h3⟩ := C.step i x hx
  rw [hx] at hfi
  simp only [hx, h1, Bool.or_eq_true, beq_iff_eq, List.all_eq_true, List.mem_range] at hfi ⊢
  rcases hfi with h | h | h
  · exact .inl h
  · exact .inr (.inl h)
  · by_cases htr : x.turns = true
    · exact .inl htr
    refine .inr (.inr fun c hc => ?_)
    obtain ⟨d, g, k, rfl⟩ := hd.op i x hx
    have htot : ∀ c, c ≤ cntS l (ltS l.length) → ∃ m, hs[c]? = some m := by
      intro c hc
      have hn : ss[l.length]? = some (ss[l.length]'(by rw [C.len]; omega)) := by simp [C.len]
      have := C.mem l.length _ (Nat.le_refl _) hn
      have hlt := (List.getElem?_eq_some_iff.1 this).1
      exact ⟨hs[c]'(by omega), by simp⟩
    have hhi : hiOf l pre i ≤ cntS l (ltS l.length) := by
      unfold hiOf
      refine cntS_mono fun j hj _ => ?_
      unfold turnAt at hj
      split at hj
      · rename_i y hy
        have := (List.getElem?_eq_some_iff.1 hy).1
        simp [ltS, this]
      · simp at hj
    obtain ⟨m, hm⟩ := htot (loOf l pre i + c) (by omega)
    rw [hm]
    simp only [insI] at h3
    split at h3
    · rename_i r hr
      obtain ⟨r', hr', he⟩ := insV_memless (s := s1) (s' := { s1 with hp := m.1, ct := m.2 }) rfl h hr
      simp only [stableAt, hr, hr', he, eqAV_refl]
    · simp at h3

variable {nt : Nat} {σ : Sl} {hp : Heap} {ct : Nat}

theorem wpE_regD {l : List Ins} {pre : List (List Nat)} {Q : Ex → Sl → Heap → Nat → Prop} (hd : drawStatic l pre = true) (hf : drawFree l pre = true) (h : wpX G R nt l σ hp ct (Q .normal)) : wpE G R nt (.regD l pre) σ hp ct Q := by
  obtain ⟨σ', hp', ct', h1, h2⟩ := h
  obtain ⟨ss, hs, h3, h4⟩ := trail_of h1
  refine ⟨0, .normal, σ', hp', ct', ?_, h2⟩
  simp only [exec, h3, drawDyn_free hf (Draw.of hd) h3, if_true, h4]

/-- WHERE THE ORDER MIGHT TELL SOMETHING: it must be shown that it does not. -/
theorem wpE_regD' {l : List Ins} {pre : List (List Nat)} {Q : Ex → Sl → Heap → Nat → Prop} {ss : List St} {hs : List (Heap × Nat)} (ht : trail G R l (mkS nt σ hp ct) = some (ss, hs)) (hdyn : drawDyn G R l pre ss hs = true) {σ' : Sl} {hp' : Heap} {ct' : Nat}
    (hl : ss.getLast? = some (mkS nt σ' hp' ct')) (h : Q .normal σ' hp' ct') : wpE G R nt (.regD l pre) σ hp ct Q :=
  ⟨0, .normal, σ', hp', ct', by simp only [exec, ht, hdyn, if_true, hl], h⟩

end

/-- The slots at the beginning. -/
def ini (args : List A1) : Sl := fun t => (args.map AV.v).getD t .und

theorem start_mk (fn : Fn) (args : List A1) (bs : List Blk) (h : args.length ≤ fn.nt) : start fn args bs = mkS fn.nt (ini args) (bs.zipIdx.map fun (b, i) => (PB + i, b)) 1 := by
  simp only [start, mkS]
  congr 1
  apply List.ext_getElem?
  intro i
  by_cases h1 : i < args.length
  · rw [List.getElem?_append_left (by simpa using h1)]
    have : i < fn.nt := by omega
    simp [List.getElem?_range this, ini, h1]
  · rw [List.getElem?_append_right (by simpa using Nat.le_of_not_lt h1)]
    by_cases h2 : i < fn.nt
    · rw [List.getElem?_replicate, if_pos (by simp; omega)]
      simp [List.getElem?_range h2, ini, List.getElem?_eq_none (Nat.le_of_not_lt h1)]
    · rw [List.getElem?_eq_none (by simp; omega), List.getElem?_eq_none (by simpa using Nat.le_of_not_lt h2)]

def readRσ (nt : Nat) (σ : Sl) (hp : Heap) : Res → Option A1
  | .tmp t => (evσ nt σ (.t t)).one
  | .cell t n agg => match evσ nt σ (.t t) with
    | .v (.c (.r (.ptr b g off))) => match hp.row b g with
      | some cs => match takeN n (cs.drop off) with
        | some cs => mk1 agg cs
        | none => none
      | none => none
    | _ => none

theorem readRes_mk {nt : Nat} {σ : Sl} {hp : Heap} {ct : Nat} (r : Res) : readRes (mkS nt σ hp ct) r = readRσ nt σ hp r := by
  cases r
  · simp only [readRes, readRσ, get_mk, evσ]
  · simp only [readRes, readRσ, get_mk, evσ, mkS_hp]
    rfl

/-- What must hold where a function ends. -/
def atEnd (nt : Nat) (res : List Res) (Q : List A1 → Heap → Prop) : Ex → Sl → Heap → Nat → Prop
  | .exit _, _, _, _ => False
  | _, σ, hp, _ => ∃ rs, traverse (readRσ nt σ hp) res = some rs ∧ Q rs hp

section
variable {G : Nat → List IV} {F : Nat → Option Fn} {X : Run}

/-- A FUNCTION, BY ITS CODE. -/
theorem fn_wp {f : Nat} {fn : Fn} (hf : F f = some fn) {args : List A1} {bs : List Blk} (hn : args.length ≤ fn.nt) {Q : List A1 → Heap → Prop}
    (h : wpE G (lim G F X) fn.nt fn.body (ini args) (bs.zipIdx.map fun (b, i) => (PB + i, b)) 1 (atEnd fn.nt fn.res Q)) : ∃ rs hp, lim G F X f args bs = some (rs, hp) ∧ Q rs hp := by
  obtain ⟨n, ex, σ', hp', ct', h1, h2⟩ := h
  rw [← start_mk fn args bs hn] at h1
  have hr : ∀ rs, traverse (readRσ fn.nt σ' hp') fn.res = some rs → traverse (readRes (mkS fn.nt σ' hp' ct')) fn.res = some rs := fun rs e => by
    rw [← e]; exact traverse_congr fun x _ => readRes_mk x
  cases ex with
  | exit i => exact absurd h2 id
  | normal =>
    obtain ⟨rs, e1, e2⟩ := h2
    exact ⟨rs, hp', lim_fn hf h1 (fun i q => by cases q) (hr rs e1), e2⟩
  | ret =>
    obtain ⟨rs, e1, e2⟩ := h2
    exact ⟨rs, hp', lim_fn hf h1 (fun i q => by cases q) (hr rs e1), e2⟩

/-- A function that is called with nothing handed over. -/
theorem pure_wp {f : Nat} {fn : Fn} (hf : F f = some fn) {args : List A1} (hn : args.length ≤ fn.nt) {lent : Bool} {vs : List A1}
    (h : wpE G (lim G F X) fn.nt fn.body (ini args) [] 1 (atEnd fn.nt fn.res fun rs hp => traverse (back1 hp [] lent) rs = some vs)) : pureCall (lim G F X) f args lent = some vs := by
  obtain ⟨rs, hp, h1, h2⟩ := fn_wp (bs := []) hf hn h
  simp only [pureCall, h1, h2]

end

section
variable {nt : Nat} {σ : Sl} {hp : Heap} {ct : Nat} {G : Nat → List IV} {R : Run}

theorem evals_mk (l : List Opd) : evals (mkS nt σ hp ct) l = traverse (fun o => (evσ nt σ o).one) l :=
  traverse_congr fun x _ => by rw [ev_mk]

/-- A pure call in the code. -/
theorem opK_pure {d f : Nat} {l : List Opd} {as as' vs : List A1} (h1 : traverse (fun o => (evσ nt σ o).one) l = some as) (h2 : traverse (to1 true hp []) as = some as')
    (h3 : pureCall R f as' (as.any fun a => a.cells.any (lentC [])) = some vs) : opK G R (mkS nt σ hp ct) d (.call f l { give := [], ad := [], pure := true }) = some (resV vs, hp, ct) := by
  simp only [opK, evals_mk, h1, doCall, if_true, mkS_hp, mkS_ct, h2]
  unfold pureCall at h3
  split at h3
  · rename_i rs h e
    rw [e]
    simp only
    rw [h3]
  · simp at h3

end
end Go.Abs
