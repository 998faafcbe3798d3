/-
  The abstract machine beside Go's model: one operation after the other (2): what only computes.
-/
import Derived.Test.YtcbepglkfglclaaDoorHAbsD
namespace Go.Abs
open Go.RowKit

section
variable {P : Program} {X : Cx} {E : Env} {s : St} {a : Act} {o : Oper} {G : Nat → List IV} {d : Nat} {v : AV} {h' : Heap} {c' : Nat}

theorem okv_eq {i : Option IV} (e : okv s i = some (v, h', c')) : ∃ y, i = some y ∧ v = V y ∧ h' = s.hp ∧ c' = s.ct := by
  cases i with
  | none => simp [okv] at e
  | some y => simp [okv] at e; exact ⟨y, rfl, e.1.symm, e.2.1.symm, e.2.2.symm⟩

theorem ok1_eq {i : Option A1} (e : ok1 s i = some (v, h', c')) : ∃ y, i = some y ∧ v = .v y ∧ h' = s.hp ∧ c' = s.ct := by
  cases i with
  | none => simp [ok1] at e
  | some y => simp [ok1] at e; exact ⟨y, rfl, e.1.symm, e.2.1.symm, e.2.2.symm⟩

theorem op_mov (hW : WR X E) (hT : TR X E s a) (hh : E.h = s.hp) (hc : E.ct = s.ct) {x : Operand} {y : Opd} (ho : o.op = .move x ∨ o.op = .assign x) (hx : okOpd x y = true)
    (hs : step G s d (.mov y) = some (v, h', c')) : OpOk P X E o a.eval v h' c' := by
  have r := ev_sound hT hx
  have : v = ev s y ∧ h' = s.hp ∧ c' = s.ct := by
    simp only [step] at hs
    split at hs
    · simp at hs
    · simp at hs
    · simp at hs
      exact ⟨hs.1.symm, hs.2.1.symm, hs.2.2.symm⟩
  obtain ⟨rfl, rfl, rfl⟩ := this
  rw [← hh, ← hc]
  exact OpOk.pure hW (x := a.eval x) (by rcases ho with ho | ho <;> simp [execOp, ho]) r

theorem op_pick (hW : WR X E) (hT : TR X E s a) (hh : E.h = s.hp) (hc : E.ct = s.ct) {x y z : Operand} {x' y' z' : Opd} (ho : o.op = .pick x y z)
    (hx : okOpd x x' = true) (hy : okOpd y y' = true) (hz : okOpd z z' = true) (hs : step G s d (.pick x' y' z') = some (v, h', c')) : OpOk P X E o a.eval v h' c' := by
  have rx := ev_sound hT hx
  have ry := ev_sound hT hy
  have rz := ev_sound hT hz
  simp only [step] at hs
  split at hs
  · rename_i hb
    simp at hs; obtain ⟨rfl, rfl, rfl⟩ := hs
    rw [← hh, ← hc]
    exact OpOk.pure hW (x := a.eval y) (by simp [execOp, ho, bool_sound rx hb, asBool]) ry
  · rename_i hb
    simp at hs; obtain ⟨rfl, rfl, rfl⟩ := hs
    rw [← hh, ← hc]
    exact OpOk.pure hW (x := a.eval z) (by simp [execOp, ho, bool_sound rx hb, asBool]) rz
  · simp at hs

/-- The check of a field. -/
def fldOk (P : Program) (t f off n : Nat) (agg : Bool) : Bool :=
  match P.underlying t with
  | some (.struct fs) => match fs[f]? with
    | some fd => fd.offset == off && tyOk P fd.type n agg
    | none => false
  | _ => false

theorem op_fld (hW : WR X E) (hT : TR X E s a) (hh : E.h = s.hp) (hc : E.ct = s.ct) {t f off n : Nat} {agg : Bool} {x : Operand} {x' : Opd} (ho : o.op = .field t x f)
    (hx : okOpd x x' = true) (hf : fldOk P t f off n agg = true) (hs : step G s d (.fld off n agg x') = some (v, h', c')) : OpOk P X E o a.eval v h' c' := by
  have rx := ev_sound hT hx
  unfold fldOk at hf
  split at hf
  · rename_i fs hu
    split at hf
    · rename_i fd hfd
      simp at hf
      obtain ⟨rfl, hty⟩ := hf
      simp only [step] at hs
      split at hs
      · rename_i xs hxs
        rw [hxs] at rx
        obtain ⟨vs, hav, r⟩ := rx
        split at hs
        · rename_i cs hcs
          obtain ⟨a1, h1, rfl, rfl, rfl⟩ := ok1_eq hs
          obtain ⟨hn, rfl⟩ := takeN_sound hcs
          rw [← hh, ← hc]
          have hl := r.length
          simp at hn
          refine OpOk.pure hW (x := valOf agg ((vs.drop fd.offset).take n)) ?_ (mk1_sound ((r.drop _).take _) h1)
          have hp := run_part_cells hty E.w vs.toArray fd.offset (by simp; have := (tyOk_parts hty); omega)
          simp at hp
          simp [execOp, ho, hav, Instr.field, run_underlying hu, hfd, asAgg, hp]
        · simp at hs
      · simp at hs
    · simp at hf
  · simp at hf

def idxOk (P : Program) (t len sz : Nat) (agg : Bool) : Bool :=
  match P.underlying t with
  | some (.array n e) => n == len && tyOk P e sz agg
  | _ => false

theorem op_idx (hW : WR X E) (hT : TR X E s a) (hh : E.h = s.hp) (hc : E.ct = s.ct) {t len sz : Nat} {agg : Bool} {x i : Operand} {x' i' : Opd} (ho : o.op = .index t x i)
    (hx : okOpd x x' = true) (hi : okOpd i i' = true) (hf : idxOk P t len sz agg = true) (hs : step G s d (.idx len sz agg x' i') = some (v, h', c')) : OpOk P X E o a.eval v h' c' := by
  have rx := ev_sound hT hx
  have ri := ev_sound hT hi
  unfold idxOk at hf
  split at hf
  · rename_i n e hu
    simp at hf
    obtain ⟨rfl, hty⟩ := hf
    simp only [step] at hs
    split at hs
    · rename_i xs k hxs hk
      rw [hxs] at rx
      obtain ⟨vs, hav, r⟩ := rx
      obtain ⟨kk, hiv⟩ := nat_sound ri hk
      split at hs
      · rename_i hlt
        split at hs
        · rename_i cs hcs
          obtain ⟨a1, h1, rfl, rfl, rfl⟩ := ok1_eq hs
          obtain ⟨hn, rfl⟩ := takeN_sound hcs
          rw [← hh, ← hc]
          have hl := r.length
          simp at hn
          refine OpOk.pure hW (x := valOf agg ((vs.drop (k * sz)).take sz)) ?_ (mk1_sound ((r.drop _).take _) h1)
          have hsz := run_size hty E.w
          rcases Nat.eq_zero_or_pos sz with h0 | h0
          · obtain ⟨_, _, _, _, _, _, h3⟩ := tyOk_parts hty
            subst h0
            simp at h3
            subst h3
            have h5 := run_isAgg hty E.w
            simp [execOp, ho, hav, hiv, Instr.index, asIntOf, run_underlying hu, hlt, hsz, part, h5, valOf]
          · have hp := run_part_cells hty E.w vs.toArray (k * sz) (by simp; omega)
            simp at hp
            simp [execOp, ho, hav, hiv, Instr.index, asIntOf, run_underlying hu, hlt, hsz, hp]
        · simp at hs
      · simp at hs
    · simp at hs
  · simp at hf

def isStrT (P : Program) (t : Nat) : Bool := match P.underlying t with | some .string => true | _ => false

theorem isStrT_eq {t : Nat} (h : isStrT P t = true) : P.underlying t = some .string := by
  unfold isStrT at h
  split at h
  · assumption
  · simp at h

theorem op_idxS (hW : WR X E) (hT : TR X E s a) (hh : E.h = s.hp) (hc : E.ct = s.ct) {t : Nat} {x i : Operand} {x' i' : Opd} (ho : o.op = .index t x i)
    (hx : okOpd x x' = true) (hi : okOpd i i' = true) (hf : isStrT P t = true) (hs : step G s d (.idxS x' i') = some (v, h', c')) : OpOk P X E o a.eval v h' c' := by
  have rx := ev_sound hT hx
  have ri := ev_sound hT hi
  have hu := isStrT_eq hf
  simp only [step] at hs
  split at hs
  · rename_i l k hl hk
    obtain ⟨str, hav, rfl⟩ := str_sound rx hl
    obtain ⟨kk, hiv⟩ := nat_sound ri hk
    split at hs
    · rename_i ch hch
      obtain ⟨y, h1, rfl, rfl, rfl⟩ := okv_eq hs
      simp at h1
      subst h1
      rw [← hh, ← hc]
      refine OpOk.pure hW (x := .int .u8 ch.toNat) ?_ (VR.int _ _)
      have hlt : k < str.size := by have := (List.getElem?_eq_some_iff.1 hch).1; simpa using this
      have hb : str[k]? = some ch := by
        have : str.data.toList[k]? = some ch := hch
        rw [getElem?_pos str k hlt]
        congr 1
        have h2 := (List.getElem?_eq_some_iff.1 this).2
        exact h2
      simp [execOp, ho, hav, hiv, Instr.index, asIntOf, run_underlying hu, hb]
    · simp at hs
  · simp at hs

/-- The value that a scalar tells. -/
def scal : IV → Value
  | .int k n => .int k n
  | .bool b => .bool b
  | .str l => .string ⟨l.toArray⟩
  | _ => undef

theorem intBin_scal {op : BinOp} {k : IntKind} {x y : Int} {r : IV} (h : intBin op k x y = some r) (p : Nat → Nat → Prop) (hh : Array Obj) : VR p hh r (scal r) := by
  cases op <;> simp [intBin] at h <;> first
    | (subst h; exact .int _ _)
    | (subst h; exact .bool _)
    | (obtain ⟨h1, h⟩ := h; subst h; exact .int _ _)

theorem run_intBin {op : BinOp} {k : IntKind} {x y : Int} {r : IV} (h : intBin op k x y = some r) (t : TypeId) (w : World) :
    (binOp op t (.int k x) (.int k y)).run P w = .ok (scal r) w := by
  cases op <;> simp [intBin] at h <;> first
    | (subst h; simp [binOp, Op.intArith, Op.intBits, Op.intCmp, scal])
    | (obtain ⟨h1, h⟩ := h; subst h; simp [binOp, Op.intDiv, h1, scal])

theorem run_shiftBin {op : BinOp} {k k' : IntKind} {x y : Int} {r : IV} (hop : op = .shl ∨ op = .shr) (h : shiftBin op k x y = some r) (t : TypeId) (w : World) :
    (binOp op t (.int k x) (.int k' y)).run P w = .ok (scal r) w ∧ ∀ p hh, VR p hh r (scal r) := by
  unfold shiftBin at h
  split at h
  · simp at h
  · rename_i hy
    rcases hop with rfl | rfl <;> simp at h <;> subst h <;> exact ⟨by simp [binOp, Op.shift, hy, scal], fun _ _ => .int _ _⟩

theorem run_strBin {op : BinOp} {x y : ByteArray} {r : IV} (h : strBin op x.data.toList y.data.toList = some r) (t : TypeId) (w : World) :
    ∃ z, (binOp op t (.string x) (.string y)).run P w = .ok z w ∧ ∀ p hh, VR p hh r z := by
  have hsz : ∀ z : ByteArray, z.data.toList.length = z.size := fun z => Array.length_toList
  cases op <;> simp only [strBin] at h
  case add =>
    split at h
    · rename_i hle
      simp at h
      subst h
      rw [hsz, hsz] at hle
      exact ⟨.string (x ++ y), by simp only [binOp]; exact run_string_add_sum w x y (Nat.le_trans hle (by decide)), fun _ _ => .str _ _ (by rw [ByteArray.data_append]; exact Array.toList_append)⟩
    · simp at h
  all_goals first
    | (simp at h; done)
    | (simp only [Option.some.injEq] at h; subst h; exact ⟨_, by simp only [binOp, Op.stringOp, ByteArray.toList_eq]; rfl, fun _ _ => .bool _⟩)

theorem op_bin (hW : WR X E) (hT : TR X E s a) (hh : E.h = s.hp) (hc : E.ct = s.ct) {op : BinOp} {t u : Nat} {x y : Operand} {x' y' : Opd} (ho : o.op = .binOp op t x y u)
    (hx : okOpd x x' = true) (hy : okOpd y y' = true) (hs : step G s d (.bin op x' y') = some (v, h', c')) : OpOk P X E o a.eval v h' c' := by
  have rx := ev_sound hT hx
  have ry := ev_sound hT hy
  simp only [step] at hs
  obtain ⟨r, h1, rfl, rfl, rfl⟩ := okv_eq hs
  rw [← hh, ← hc]
  unfold binV at h1
  split at h1
  · rename_i k m k' m' e1 e2
    rw [e1] at rx; rw [e2] at ry
    have ex : a.eval x = .int k m := by have rx : VR _ _ _ _ := rx; generalize a.eval x = q at rx; cases rx; rfl
    have ey : a.eval y = .int k' m' := by have ry : VR _ _ _ _ := ry; generalize a.eval y = q at ry; cases ry; rfl
    have gen : ∀ z, (binOp op t (.int k m) (.int k' m')).run P E.w = .ok z E.w → (∀ p hh, VR p hh r z) → OpOk P X E o a.eval (V r) E.h E.ct := fun z hz hv =>
      OpOk.pure hW (x := z) (by simp [execOp, ho, ex, ey, eqGuard_at_int, hz]) (hv _ _)
    split at h1
    · obtain ⟨q1, q2⟩ := run_shiftBin (P := P) (k' := k') (.inl rfl) h1 t E.w
      exact gen _ q1 q2
    · obtain ⟨q1, q2⟩ := run_shiftBin (P := P) (k' := k') (.inr rfl) h1 t E.w
      exact gen _ q1 q2
    · split at h1
      · rename_i hk
        subst hk
        exact gen _ (run_intBin h1 t E.w) (intBin_scal h1)
      · simp at h1
  · rename_i l m e1 e2
    rw [e1] at rx; rw [e2] at ry
    obtain ⟨sx, ex, rfl⟩ : ∃ z : ByteArray, a.eval x = .string z ∧ z.data.toList = l := by
      have rx : VR _ _ _ _ := rx
      generalize a.eval x = q at rx
      cases rx; exact ⟨_, rfl, by assumption⟩
    obtain ⟨sy, ey, rfl⟩ : ∃ z : ByteArray, a.eval y = .string z ∧ z.data.toList = m := by
      have ry : VR _ _ _ _ := ry
      generalize a.eval y = q at ry
      cases ry; exact ⟨_, rfl, by assumption⟩
    obtain ⟨z, hz, hv⟩ := run_strBin (P := P) h1 t E.w
    exact OpOk.pure hW (x := z) (by simp [execOp, ho, ex, ey, eqGuard_at_string, hz]) (hv _ _)
  · simp at h1

def isBoolT (P : Program) (t : Nat) : Bool := match P.underlying t with | some .bool => true | _ => false

theorem op_eqB (hW : WR X E) (hT : TR X E s a) (hh : E.h = s.hp) (hc : E.ct = s.ct) {neg : Bool} {t u : Nat} {x y : Operand} {x' y' : Opd} (ho : o.op = .binOp (if neg then .neq else .eql) t x y u)
    (hx : okOpd x x' = true) (hy : okOpd y y' = true) (hu : isBoolT P t = true) (hs : step G s d (.eqB neg x' y') = some (v, h', c')) : OpOk P X E o a.eval v h' c' := by
  have rx := ev_sound hT hx
  have ry := ev_sound hT hy
  have hu : P.underlying t = some .bool := by unfold isBoolT at hu; split at hu; assumption; simp at hu
  simp only [step] at hs
  split at hs
  · rename_i p q e1 e2
    obtain ⟨r, h1, rfl, rfl, rfl⟩ := okv_eq hs
    simp at h1; subst h1
    rw [← hh, ← hc]
    have ex := bool_sound rx e1
    have ey := bool_sound ry e2
    refine OpOk.pure hW (x := .bool (if neg then !(p == q) else p == q)) ?_ (VR.bool _)
    cases neg <;> simp [execOp, ho, ex, ey, eqGuard_at_bool, binOp, Op.equal, Op.maxDepth, run_equalIn_bool' E.w 9999 t p q hu]
  · simp at hs

/-- The kind of what is held against nil. -/
def nilKind (P : Program) (t ty : Nat) : Bool :=
  match P.underlying t, ty with
  | some (.pointer _), 0 | some (.slice _), 1 | some (.map _ _), 2 | some (.func _ _ _), 3 => true
  | _, _ => false

/-- What a value is, of a kind that can be nil. -/
def nilOf : Value → Option (Nat × Bool)
  | .pointer a => some (0, a.isNone)
  | .slice a _ _ => some (1, a.isNone)
  | .map a => some (2, a.isNone)
  | .nilFunc => some (3, true)
  | .func _ _ _ => some (3, false)
  | _ => none

theorem isNil_sound {ty : Nat} {x : AC} {y : Value} {b : Bool} (r : CC X E x y) (e : isNil E.h ty x = some b) : nilOf y = some (ty, b) := by
  unfold isNil at e
  split at e <;> (try split at e) <;> simp at e
  all_goals (try subst e)
  all_goals (try (rename_i h; subst h))
  all_goals first
    | (cases r <;> rfl)
    | (obtain ⟨vs, rfl, _⟩ := r; rfl)
    | (obtain ⟨h1, h2⟩ := ‹_ ∧ _›; subst h1; obtain ⟨_, _, r⟩ := r; obtain ⟨_, rfl⟩ := r h2; rfl)
    | (obtain ⟨h1, h2⟩ := ‹_ ∧ _›; subst h1; obtain ⟨_, _, r⟩ := r; have r := r h2; subst r; rfl)
    | (obtain ⟨h1, h2⟩ := ‹_ ∧ _›; subst h1; obtain ⟨_, _, r⟩ := r; obtain ⟨_, ⟨_, rfl, _⟩ | ⟨_, _, rfl⟩⟩ := r h2 <;> rfl)

theorem run_eq_nil {t ty : Nat} {p q : Value} {b c : Bool} (hk : nilKind P t ty = true) (hp : nilOf p = some (ty, b)) (hq : nilOf q = some (ty, c)) (hbc : b = true ∨ c = true) (w : World) :
    (Op.equal t p q).run P w = .ok (b == c) w := by
  unfold nilKind at hk
  split at hk
  all_goals first | (simp at hk; done) | skip
  case h_1 e hu =>
    cases p <;> simp [nilOf] at hp
    cases q <;> simp [nilOf] at hq
    rename_i p q
    subst hp; subst hq
    cases p <;> cases q <;> simp at hbc <;> (show (Op.equalIn (9999 + 1) t _ _).run P w = _) <;> generalize 9999 = dd <;> simp only [Op.equalIn, Sem.run_bind, run_underlying hu, Result.andThen_ok, Sem.run_pure] <;> rfl
  case h_2 e hu =>
    cases p <;> simp [nilOf] at hp
    cases q <;> simp [nilOf] at hq
    rename_i p _ _ q _ _
    subst hp; subst hq
    cases p <;> cases q <;> simp at hbc <;> (show (Op.equalIn (9999 + 1) t _ _).run P w = _) <;> generalize 9999 = dd <;> simp only [Op.equalIn, Sem.run_bind, run_underlying hu, Result.andThen_ok, Sem.run_pure] <;> rfl
  case h_3 e1 e2 hu =>
    cases p <;> simp [nilOf] at hp
    cases q <;> simp [nilOf] at hq
    rename_i p q
    subst hp; subst hq
    cases p <;> cases q <;> simp at hbc <;> (show (Op.equalIn (9999 + 1) t _ _).run P w = _) <;> generalize 9999 = dd <;> simp only [Op.equalIn, Sem.run_bind, run_underlying hu, Result.andThen_ok, Sem.run_pure] <;> rfl
  case h_4 e1 e2 e3 hu =>
    cases p <;> simp [nilOf] at hp <;> cases q <;> simp [nilOf] at hq <;> subst hp <;> subst hq <;> simp at hbc <;> (show (Op.equalIn (9999 + 1) t _ _).run P w = _) <;> generalize 9999 = dd <;> simp only [Op.equalIn, Sem.run_bind, run_underlying hu, Result.andThen_ok, Sem.run_pure] <;> rfl

theorem nilOf_guard {op : BinOp} {t : TypeId} {x y : Operand} {p q : Value} {ty : Nat} {b : Bool} (hp : nilOf p = some (ty, b)) : eqGuard op t x y p q = pure () := by
  cases p <;> simp [nilOf] at hp
  · exact eqGuard_at_pointer _ _ _ _ _ _
  · exact eqGuard_at_slice _ _ _ _ _ _ _ _
  · exact eqGuard_at_map _ _ _ _ _ _
  · exact eqGuard_at_func _ _ _ _ _ _ _ _
  · exact eqGuard_at_nilFunc _ _ _ _ _

theorem nilOf_binOp {neg : Bool} {t : TypeId} {p q : Value} {ty : Nat} {b c : Bool} (hp : nilOf p = some (ty, b)) (hq : nilOf q = some (ty, c)) (w : World) (he : (Op.equal t p q).run P w = .ok (b == c) w) :
    (binOp (if neg then .neq else .eql) t p q).run P w = .ok (.bool (if neg then !(b == c) else b == c)) w := by
  cases p <;> simp [nilOf] at hp <;> cases q <;> simp [nilOf] at hq <;> first
    | (exfalso; omega)
    | (cases neg <;> simp [binOp, he])

theorem op_eqN (hW : WR X E) (hT : TR X E s a) (hh : E.h = s.hp) (hc : E.ct = s.ct) {neg : Bool} {t u ty : Nat} {x y : Operand} {x' y' : Opd} (ho : o.op = .binOp (if neg then .neq else .eql) t x y u)
    (hx : okOpd x x' = true) (hy : okOpd y y' = true) (hu : nilKind P t ty = true) (hs : step G s d (.eqN neg ty x' y') = some (v, h', c')) : OpOk P X E o a.eval v h' c' := by
  have rx := ev_sound hT hx
  have ry := ev_sound hT hy
  simp only [step] at hs
  split at hs
  · rename_i p q e1 e2
    split at hs
    · rename_i b c f1 f2
      split at hs
      · rename_i hbc
        obtain ⟨r, h1, rfl, rfl, rfl⟩ := okv_eq hs
        simp at h1; subst h1
        rw [e1] at rx; rw [e2] at ry
        rw [← hh] at f1 f2
        rw [← hh, ← hc]
        have n1 := isNil_sound (x := p) rx f1
        have n2 := isNil_sound (x := q) ry f2
        have he := run_eq_nil (P := P) hu n1 n2 (by simpa using hbc) E.w
        refine OpOk.pure hW (x := .bool (if neg then !(b == c) else b == c)) ?_ (VR.bool _)
        simp [execOp, ho, nilOf_guard n1, nilOf_binOp n1 n2 E.w he]
      · simp at hs
    · simp at hs
  · simp at hs

theorem op_un (hW : WR X E) (hT : TR X E s a) (hh : E.h = s.hp) (hc : E.ct = s.ct) {op : UnOp} {t : Nat} {x : Operand} {x' : Opd} (ho : o.op = .unOp op t x)
    (hx : okOpd x x' = true) (hs : step G s d (.un op x') = some (v, h', c')) : OpOk P X E o a.eval v h' c' := by
  have rx := ev_sound hT hx
  simp only [step] at hs
  split at hs
  · rename_i k n e1
    obtain ⟨r, h1, rfl, rfl, rfl⟩ := okv_eq hs
    injection h1 with h1; subst h1
    rw [e1] at rx
    have ex : a.eval x = .int k n := by have rx : VR _ _ _ _ := rx; generalize a.eval x = q at rx; cases rx; rfl
    rw [← hh, ← hc]
    exact OpOk.pure hW (x := .int k (k.wrap (0 - n))) (by simp [execOp, ho, ex, Op.unary, Op.intArith]) (VR.int _ _)
  · rename_i k n e1
    obtain ⟨r, h1, rfl, rfl, rfl⟩ := okv_eq hs
    rw [e1] at rx
    have ex : a.eval x = .int k n := by have rx : VR _ _ _ _ := rx; generalize a.eval x = q at rx; cases rx; rfl
    rw [← hh, ← hc]
    simp [intBin] at h1
    subst h1
    exact OpOk.pure hW (x := .int k (k.wrap (BitVec.ofInt k.bits (if k.signed then -1 else k.max) ^^^ BitVec.ofInt k.bits n).toNat)) (by simp [execOp, ho, ex, Op.unary, Op.intBits]) (VR.int _ _)
  · rename_i b e1
    obtain ⟨r, h1, rfl, rfl, rfl⟩ := okv_eq hs
    simp at h1; subst h1
    rw [e1] at rx
    have ex : a.eval x = .bool b := by have rx : VR _ _ _ _ := rx; generalize a.eval x = q at rx; cases rx; rfl
    rw [← hh, ← hc]
    exact OpOk.pure hW (x := .bool !b) (by simp [execOp, ho, ex, Op.unary]) (VR.bool _)
  · simp at hs

def intT (P : Program) (t : Nat) (k : IntKind) : Bool := match P.underlying t with | some (.int k') => k == k' | _ => false
theorem intT_eq {t : Nat} {k : IntKind} (h : intT P t k = true) : P.underlying t = some (.int k) := by
  unfold intT at h
  split at h
  · simp at h; subst h; assumption
  · simp at h

theorem op_cvI (hW : WR X E) (hT : TR X E s a) (hh : E.h = s.hp) (hc : E.ct = s.ct) {k k' : IntKind} {t u : Nat} {x : Operand} {x' : Opd} (ho : o.op = .convert t u x)
    (hx : okOpd x x' = true) (ht : intT P t k' = true) (hu : intT P u k = true) (hs : step G s d (.cvI k x') = some (v, h', c')) : OpOk P X E o a.eval v h' c' := by
  have rx := ev_sound hT hx
  have hu := intT_eq hu
  have ht := intT_eq ht
  simp only [step] at hs
  split at hs
  · rename_i k2 n e1
    obtain ⟨r, h1, rfl, rfl, rfl⟩ := okv_eq hs
    simp at h1; subst h1
    rw [← hh, ← hc]
    exact OpOk.pure hW (x := .int k (k.wrap n)) (by simp [execOp, ho, int_sound rx e1, convert, run_underlying ht, run_underlying hu, Conv.intToInt]) (VR.int _ _)
  · simp at hs

theorem op_cvIS (hW : WR X E) (hT : TR X E s a) (hh : E.h = s.hp) (hc : E.ct = s.ct) {k' : IntKind} {t u : Nat} {x : Operand} {x' : Opd} (ho : o.op = .convert t u x)
    (hx : okOpd x x' = true) (ht : intT P t k' = true) (hu : isStrT P u = true) (hs : step G s d (.cvIS x') = some (v, h', c')) : OpOk P X E o a.eval v h' c' := by
  have rx := ev_sound hT hx
  have hu := isStrT_eq hu
  have ht := intT_eq ht
  simp only [step] at hs
  split at hs
  · rename_i k2 n e1
    obtain ⟨r, h1, rfl, rfl, rfl⟩ := okv_eq hs
    simp at h1; subst h1
    rw [← hh, ← hc]
    exact OpOk.pure hW (x := .string (Utf8.encode n)) (by simp [execOp, ho, int_sound rx e1, convert, run_underlying ht, run_underlying hu, Conv.intToString]) (VR.str _ _ rfl)
  · simp at hs

theorem op_cvSS (hW : WR X E) (hT : TR X E s a) (hh : E.h = s.hp) (hc : E.ct = s.ct) {t u : Nat} {x : Operand} {x' : Opd} (ho : o.op = .convert t u x)
    (hx : okOpd x x' = true) (ht : isStrT P t = true) (hu : isStrT P u = true) (hs : step G s d (.cvSS x') = some (v, h', c')) : OpOk P X E o a.eval v h' c' := by
  have rx := ev_sound hT hx
  have hu := isStrT_eq hu
  have ht := isStrT_eq ht
  simp only [step] at hs
  split at hs
  · rename_i l e1
    obtain ⟨r, h1, rfl, rfl, rfl⟩ := okv_eq hs
    simp at h1; subst h1
    obtain ⟨z, ez, hz⟩ := str_sound rx e1
    rw [← hh, ← hc]
    exact OpOk.pure hW (x := .string z) (by simp [execOp, ho, ez, convert, run_underlying ht, run_underlying hu]) (VR.str _ _ hz)
  · simp at hs

end
end Go.Abs
