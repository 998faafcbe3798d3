/-
  The abstract machine, stepped through: what each operation gives, as equations.
-/
import Derived.Test.YtcbepglkfglclaaDoorHAbsW
namespace Go.Abs

/-- An operation with its guard. -/
def guardO (w : Option Bool) (r : Option (AV × Heap × Nat)) (hp : Heap) (ct : Nat) : Option (AV × Heap × Nat) :=
  match w with
  | some true => r
  | some false => some (.skp, hp, ct)
  | none => none

/-- What is done with what an operation gives. -/
def wpK (next : Sl → Heap → Nat → Prop) (σ : Sl) (dd : Option Nat) : Option (AV × Heap × Nat) → Prop
  | some r => next (updO σ dd r.1) r.2.1 r.2.2
  | none => False

/-- What must hold before operations. -/
def wpL (G : Nat → List IV) (R : Run) (nt : Nat) : List Ins → (Sl → Heap → Nat → Prop) → Sl → Heap → Nat → Prop
  | [], Q, σ, hp, ct => Q σ hp ct
  | .op dd g k :: l, Q, σ, hp, ct => wpK (wpL G R nt l Q) σ dd (guardO (wantσ nt σ g) (opK G R (mkS nt σ hp ct) (dd.getD 0) k) hp ct)
  | i :: l, Q, σ, hp, ct => ∃ σ' hp' ct', insI G R (mkS nt σ hp ct) i = some (mkS nt σ' hp' ct') ∧ wpL G R nt l Q σ' hp' ct'

theorem wpL_sound {nt : Nat} {G : Nat → List IV} {R : Run} : ∀ {l : List Ins} {σ : Sl} {hp : Heap} {ct : Nat} {Q : Sl → Heap → Nat → Prop}, wpL G R nt l Q σ hp ct → wpX G R nt l σ hp ct Q
  | [], σ, hp, ct, Q, h => wpX_nil h
  | .op dd g k :: l, σ, hp, ct, Q, h => by
    simp only [wpL] at h
    unfold guardO at h
    split at h
    · rename_i hg
      unfold wpK at h
      split at h
      · rename_i r hr
        exact wpX_opG hg hr (wpL_sound h)
      · exact h.elim
    · rename_i hg
      exact wpX_opF hg (wpL_sound h)
    · exact h.elim
  | .kill a b :: l, σ, hp, ct, Q, h => by
    simp only [wpL] at h
    obtain ⟨σ', hp', ct', h1, h2⟩ := h
    obtain ⟨σ2, hp2, ct2, h3, h4⟩ := wpL_sound h2
    exact ⟨σ2, hp2, ct2, by simp only [insL, h1]; exact h3, h4⟩
  | .frz a :: l, σ, hp, ct, Q, h => by
    simp only [wpL] at h
    obtain ⟨σ', hp', ct', h1, h2⟩ := h
    obtain ⟨σ2, hp2, ct2, h3, h4⟩ := wpL_sound h2
    exact ⟨σ2, hp2, ct2, by simp only [insL, h1]; exact h3, h4⟩

section
variable {nt : Nat} {σ : Sl} {hp : Heap} {ct d : Nat} {G : Nat → List IV} {R : Run}

/-- A loop; what holds before a round stands behind a name. -/
theorem wpE_lp {a : IR} {Q : Ex → Sl → Heap → Nat → Prop} (I : Nat → Sl → Heap → Nat → Prop) (m : Nat) (h0 : I m σ hp ct)
    (hs : ∀ J : Nat → Sl → Heap → Nat → Prop, (∀ m σ hp ct, I m σ hp ct → J m σ hp ct) → ∀ m σ hp ct, I m σ hp ct → wpE G R nt a σ hp ct (again J m Q)) : wpE G R nt (.loop a) σ hp ct Q :=
  wpE_loop I m h0 (hs I fun _ _ _ _ h => h)

/-- What holds in between; it stands behind a name. -/
theorem wpE_mid {a : IR} {Q : Ex → Sl → Heap → Nat → Prop} (M : Ex → Sl → Heap → Nat → Prop) (h1 : ∀ M' : Ex → Sl → Heap → Nat → Prop, (∀ ex σ hp ct, M ex σ hp ct → M' ex σ hp ct) → wpE G R nt a σ hp ct M')
    (h2 : ∀ ex σ hp ct, M ex σ hp ct → Q ex σ hp ct) : wpE G R nt a σ hp ct Q := wpE_mono (h1 M fun _ _ _ _ h => h) h2

theorem fn_wq {F : Nat → Option Fn} {X : Run} {f : Nat} {fn : Fn} (hf : F f = some fn) {args : List A1} {bs : List Blk} (hn : args.length ≤ fn.nt) {Q : List A1 → Heap → Prop}
    (h : ∀ Q' : List A1 → Heap → Prop, (∀ rs hp, Q rs hp → Q' rs hp) → wpE G (lim G F X) fn.nt fn.body (ini args) (bs.zipIdx.map fun (b, i) => (PB + i, b)) 1 (atEnd fn.nt fn.res Q')) : ∃ rs hp, lim G F X f args bs = some (rs, hp) ∧ Q rs hp :=
  fn_wp hf hn (h Q fun _ _ h => h)

theorem pure_wq {F : Nat → Option Fn} {X : Run} {f : Nat} {fn : Fn} (hf : F f = some fn) {args : List A1} (hn : args.length ≤ fn.nt) {lent : Bool} {vs : List A1}
    (h : ∀ Q : List A1 → Heap → Prop, (∀ rs hp, traverse (back1 hp [] lent) rs = some vs → Q rs hp) → wpE G (lim G F X) fn.nt fn.body (ini args) [] 1 (atEnd fn.nt fn.res Q)) : pureCall (lim G F X) f args lent = some vs :=
  pure_wp hf hn (h _ fun _ _ h => h)

theorem wp_reg {l : List Ins} {Q : Ex → Sl → Heap → Nat → Prop} (h : wpL G R nt l (Q .normal) σ hp ct) : wpE G R nt (.reg l) σ hp ct Q := wpE_reg (wpL_sound h)
theorem wp_regD {l : List Ins} {pre : List (List Nat)} {Q : Ex → Sl → Heap → Nat → Prop} (hd : drawStatic l pre = true) (hf : drawFree l pre = true) (h : wpL G R nt l (Q .normal) σ hp ct) : wpE G R nt (.regD l pre) σ hp ct Q :=
  wpE_regD hd hf (wpL_sound h)

@[simp] theorem guardO_true (r : Option (AV × Heap × Nat)) (hp : Heap) (ct : Nat) : guardO (some true) r hp ct = r := rfl
@[simp] theorem guardO_false (r : Option (AV × Heap × Nat)) (hp : Heap) (ct : Nat) : guardO (some false) r hp ct = some (.skp, hp, ct) := rfl
@[simp] theorem wpK_some (next : Sl → Heap → Nat → Prop) (dd : Option Nat) (v : AV) (h : Heap) (c : Nat) : wpK next σ dd (some (v, h, c)) = next (updO σ dd v) h c := rfl
@[simp] theorem updO_some (v : AV) (t : Nat) : updO σ (some t) v = upd σ t v := rfl
@[simp] theorem updO_none (v : AV) : updO σ none v = σ := rfl
@[simp] theorem upd_at (t : Nat) (v : AV) (u : Nat) : upd σ t v u = if u = t then v else σ u := rfl
@[simp] theorem evσ_t (n : Nat) : evσ nt σ (.t n) = if n < nt then σ n else .und := rfl
@[simp] theorem evσ_c (v : IV) : evσ nt σ (.c v) = V v := rfl
@[simp] theorem evσ_ca (l : List IV) : evσ nt σ (.ca l) = .v (.agg (l.map I)) := rfl

/-- What is moved: a value that is there. -/
def here (hp : Heap) (ct : Nat) : AV → Option (AV × Heap × Nat)
  | .und => none
  | .skp => none
  | v => some (v, hp, ct)
@[simp] theorem here_v (a : A1) : here hp ct (.v a) = some (.v a, hp, ct) := rfl
@[simp] theorem here_tup (l : List A1) : here hp ct (.tup l) = some (.tup l, hp, ct) := rfl

@[simp] theorem x_mov (x : Opd) : opK G R (mkS nt σ hp ct) d (.mov x) = here hp ct (evσ nt σ x) := by
  simp only [opK, step, ev_mk]
  cases evσ nt σ x <;> rfl
@[simp] theorem x_pick (c x y : Opd) : opK G R (mkS nt σ hp ct) d (.pick c x y) = match (evσ nt σ c).bool with
    | some true => some (evσ nt σ x, hp, ct)
    | some false => some (evσ nt σ y, hp, ct)
    | none => none := by simp only [opK, step, ev_mk]; rfl
@[simp] theorem x_bin (op : BinOp) (x y : Opd) : opK G R (mkS nt σ hp ct) d (.bin op x y) = (binV op (evσ nt σ x) (evσ nt σ y)).map fun v => (V v, hp, ct) := by simp only [opK, step, ev_mk, okv]; rfl
@[simp] theorem x_eqB (neg : Bool) (x y : Opd) : opK G R (mkS nt σ hp ct) d (.eqB neg x y) = match (evσ nt σ x).bool, (evσ nt σ y).bool with
    | some a, some b => some (V (.bool (if neg then !(a == b) else a == b)), hp, ct)
    | _, _ => none := by simp only [opK, step, ev_mk, okv]; rfl
@[simp] theorem x_un_neg (x : Opd) : opK G R (mkS nt σ hp ct) d (.un .neg x) = match (evσ nt σ x).int with
    | some (k, n) => some (V (.int k (k.wrap (0 - n))), hp, ct)
    | none => none := by
  simp only [opK, step, ev_mk, okv]
  split <;> simp_all [AV.int] <;> exact ⟨rfl, rfl⟩
@[simp] theorem x_un_not (x : Opd) : opK G R (mkS nt σ hp ct) d (.un .not x) = match (evσ nt σ x).bool with
    | some b => some (V (.bool !b), hp, ct)
    | none => none := by
  simp only [opK, step, ev_mk, okv]
  split <;> simp_all [AV.bool] <;> exact ⟨rfl, rfl⟩
@[simp] theorem x_cvI (k : IntKind) (x : Opd) : opK G R (mkS nt σ hp ct) d (.cvI k x) = match (evσ nt σ x).int with
    | some p => some (V (.int k (k.wrap p.2)), hp, ct)
    | none => none := by
  simp only [opK, step, ev_mk, okv]
  split <;> simp_all <;> exact ⟨rfl, rfl⟩
@[simp] theorem x_fld (off n : Nat) (agg : Bool) (x : Opd) : opK G R (mkS nt σ hp ct) d (.fld off n agg x) = match evσ nt σ x with
    | .v (.agg xs) => match takeN n (xs.drop off) with
      | some cs => (mk1 agg cs).map fun v => (.v v, hp, ct)
      | none => none
    | _ => none := by simp only [opK, step, ev_mk, ok1]; rfl
@[simp] theorem x_ext (x : Opd) (n : Nat) : opK G R (mkS nt σ hp ct) d (.ext x n) = match evσ nt σ x with
    | .tup l => (l[n]?).map fun v => (.v v, hp, ct)
    | _ => none := by simp only [opK, step, ev_mk, ok1]; rfl
@[simp] theorem x_len (ty : Nat) (x : Opd) : opK G R (mkS nt σ hp ct) d (.len ty x) = match ty, evσ nt σ x with
    | 0, .v (.c (.r (.i (.str l)))) => some (V (.int .i64 l.length), hp, ct)
    | 1, .v (.c (.r (.i .nilS))) => some (V (.int .i64 0), hp, ct)
    | 1, .v (.c (.r (.i .emp))) => some (V (.int .i64 0), hp, ct)
    | 1, .v (.c (.r (.i (.lit _ _ n)))) => some (V (.int .i64 n), hp, ct)
    | 1, .v (.c (.r (.sl b g _ _ n))) => if hp.cur b = some g then some (V (.int .i64 n), hp, ct) else none
    | 2, .v (.c (.r (.i .nilM))) => some (V (.int .i64 0), hp, ct)
    | 2, .v (.c (.r (.map b g))) => match hp.mapAt b g with
      | some (es, _) => some (V (.int .i64 es.length), hp, ct)
      | none => none
    | _, _ => none := by simp only [opK, step, ev_mk, okv, mkS_hp, mkS_ct]; rfl
@[simp] theorem x_mx (l : List Opd) : opK G R (mkS nt σ hp ct) d (.mx l) = match l.map (evσ nt σ) with
    | x :: r => (foldV maxI x r).map fun v => (v, hp, ct)
    | [] => none := by
  have : ev (mkS nt σ hp ct) = evσ nt σ := funext fun x => ev_mk x
  simp only [opK, step, this]; rfl
@[simp] theorem x_mn (l : List Opd) : opK G R (mkS nt σ hp ct) d (.mn l) = match l.map (evσ nt σ) with
    | x :: r => (foldV minI x r).map fun v => (v, hp, ct)
    | [] => none := by
  have : ev (mkS nt σ hp ct) = evσ nt σ := funext fun x => ev_mk x
  simp only [opK, step, this]; rfl
@[simp] theorem x_idxS (x i : Opd) : opK G R (mkS nt σ hp ct) d (.idxS x i) = match (evσ nt σ x).strv, (evσ nt σ i).nat with
    | some l, some i => match l[i]? with
      | some c => some (V (.int .u8 c.toNat), hp, ct)
      | none => none
    | _, _ => none := by simp only [opK, step, ev_mk, okv]; rfl
@[simp] theorem x_alloc (cs : List IV) : opK G R (mkS nt σ hp ct) d (.alloc cs) = some (.v (.c (.r (.ptr d ct 0))), hp.set d (.cells ct (cs.map I)), ct + 1) := rfl
@[simp] theorem x_box (n : Nat) (x : Opd) : opK G R (mkS nt σ hp ct) d (.box n x) = match evσ nt σ x with
    | .v a => if a.cells.length = n then some (.v (.c (.r (.ptr d ct 0))), hp.set d (.cells ct a.cells), ct + 1) else none
    | _ => none := by simp only [opK, step, ev_mk]; rfl
@[simp] theorem x_load (n : Nat) (agg : Bool) (x : Opd) : opK G R (mkS nt σ hp ct) d (.load n agg x) = match evσ nt σ x with
    | .v (.c p) => match lookAt G hp p with
      | some cs => match takeN n cs with
        | some cs => (mk1 agg cs).map fun v => (.v v, hp, ct)
        | none => none
      | none => none
    | _ => none := by simp only [opK, step, ev_mk, ok1]; rfl
@[simp] theorem x_store (n : Nat) (x y : Opd) : opK G R (mkS nt σ hp ct) d (.store n x y) = match evσ nt σ x, evσ nt σ y with
    | .v (.c (.r (.ptr b g off))), .v w => match hp.row b g with
      | some cs => if w.cells.length = n ∧ off + n ≤ cs.length then some (.und, hp.set b (.cells g (lay cs off w.cells)), ct) else none
      | none => none
    | _, _ => none := by simp only [opK, step, ev_mk]; rfl
@[simp] theorem x_fadr (off : Nat) (x : Opd) : opK G R (mkS nt σ hp ct) d (.fadr off x) = match evσ nt σ x with
    | .v (.c (.r (.ptr b g o))) => if hp.cur b = some g then some (.v (.c (.r (.ptr b g (o + off)))), hp, ct) else none
    | .v (.c (.r (.i (.lp t cs)))) => some (V (.lp t (cs.drop off)), hp, ct)
    | .v (.c (.r (.i (.gp g o)))) => some (V (.gp g (o + off)), hp, ct)
    | _ => none := by simp only [opK, step, ev_mk]; rfl
@[simp] theorem x_iadr (sz : Nat) (x i : Opd) : opK G R (mkS nt σ hp ct) d (.iadr sz x i) = match evσ nt σ x, (evσ nt σ i).nat with
    | .v (.c (.r (.sl b g off sz' len))), some i => if sz' = sz ∧ i < len ∧ hp.cur b = some g then some (.v (.c (.r (.ptr b g (off + i * sz)))), hp, ct) else none
    | .v (.c (.r (.i (.lit t cs len)))), some i => if i < len ∧ cs.length = len * sz then some (V (.lp t ((cs.drop (i * sz)).take sz)), hp, ct) else none
    | _, _ => none := by simp only [opK, step, ev_mk]; rfl
@[simp] theorem x_nilchk (x : Opd) : opK G R (mkS nt σ hp ct) d (.nilchk x) = match evσ nt σ x with
    | .v (.c (.r (.ptr b g off))) => if hp.cur b = some g then some (.v (.c (.r (.ptr b g off))), hp, ct) else none
    | .v (.c (.r (.i (.lp t cs)))) => some (V (.lp t cs), hp, ct)
    | .v (.c (.r (.i (.gp g off)))) => some (V (.gp g off), hp, ct)
    | .v (.c (.r (.i (.clo f cs)))) => some (V (.clo f cs), hp, ct)
    | .v (.c (.clo f cs)) => some (.v (.c (.clo f cs)), hp, ct)
    | _ => none := by simp only [opK, step, ev_mk]; rfl
@[simp] theorem x_build (zero : List IV) (places : List (Nat × Nat)) (parts : List (Nat × Opd)) : opK G R (mkS nt σ hp ct) d (.build zero places parts) = match traverse (fun p : Nat × Opd => (evσ nt σ p.2).one.map fun a => (p.1, a)) parts with
    | some ps => (fillP places (zero.map I) ps).map fun cs => (.v (.agg cs), hp, ct)
    | none => none := by
  have : ∀ p : Nat × Opd, ev (mkS nt σ hp ct) p.2 = evσ nt σ p.2 := fun p => ev_mk p.2
  simp only [opK, step, this, ok1]
  cases traverse (fun p : Nat × Opd => (evσ nt σ p.2).one.map fun a => (p.1, a)) parts with
  | none => rfl
  | some ps => simp only; cases fillP places (zero.map I) ps <;> rfl
@[simp] theorem x_bsl (sz len : Nat) (zero : List IV) (parts : List (Nat × Opd)) (own : Bool) : opK G R (mkS nt σ hp ct) d (.bsl sz len zero parts own) = match traverse (fun p : Nat × Opd => (evσ nt σ p.2).one.map fun a => (p.1, a)) parts with
    | some ps => if len * sz ≤ 16777216 ∧ zero.length = sz then
        match fillS sz (repC len zero) ps with
        | some cs =>
          if own then some (.v (.c (.r (.sl d ct 0 sz len))), hp.set d (.cells ct cs), ct + 1)
          else match traverse (rd (fun _ => false) hp 0 0) cs with
            | some vs => some (V (.lit 0 vs len), hp, ct)
            | none => none
        | none => none
      else none
    | none => none := by
  have : ∀ p : Nat × Opd, ev (mkS nt σ hp ct) p.2 = evσ nt σ p.2 := fun p => ev_mk p.2
  simp only [opK, step, this]
  rfl
@[simp] theorem x_app (sz bytes : Nat) (str : Bool) (x y : Opd) : opK G R (mkS nt σ hp ct) d (.app sz bytes str x y) = match evσ nt σ x, evσ nt σ y with
    | .v (.c a), .v (.c b) => match if isStrC b = str then slCells hp sz b else none with
      | some (new, n) => match a with
        | .r (.i .nilS) =>
          if n = 0 then some (V .nilS, hp, ct)
          else if n * bytes ≤ 17592186044416 ∧ n ≤ 17592186044416 then some (.v (.c (.r (.sl d ct 0 sz n))), hp.set d (.cells ct new), ct + 1) else none
        | .r (.i .emp) =>
          if n = 0 then some (V .emp, hp, ct)
          else if n * bytes ≤ 17592186044416 ∧ n ≤ 17592186044416 then some (.v (.c (.r (.sl d ct 0 sz n))), hp.set d (.cells ct new), ct + 1) else none
        | .r (.sl b g off sz' len) =>
          match hp.row b g with
          | some cs => if sz' = sz ∧ off + len * sz ≤ cs.length ∧ (len + n) * bytes ≤ 17592186044416 ∧ len + n ≤ 17592186044416 then
              some (.v (.c (.r (.sl b ct off sz (len + n)))), hp.set b (.cells ct (cs.take (off + len * sz) ++ new)), ct + 1) else none
          | none => none
        | _ => none
      | none => none
    | _, _ => none := by
  simp only [opK, step, ev_mk]; rfl
@[simp] theorem x_mksl (sz bytes : Nat) (zero : List IV) (x y : Opd) : opK G R (mkS nt σ hp ct) d (.mksl sz bytes zero x y) = match (evσ nt σ x).nat, (evσ nt σ y).nat with
    | some n, some c => if n = c ∧ bytes * n ≤ 70368744177664 ∧ n ≤ 70368744177664 ∧ zero.length = sz then
        some (.v (.c (.r (.sl d ct 0 sz n))), hp.set d (.cells ct (repC n zero)), ct + 1) else none
    | _, _ => none := by simp only [opK, step, ev_mk]; rfl
@[simp] theorem x_call (f : Nat) (l : List Opd) : opK G R (mkS nt σ hp ct) d (.call f l { give := [], ad := [], pure := true }) = match traverse (fun o => (evσ nt σ o).one) l with
    | some as => match traverse (to1 true hp []) as with
      | some as' => match pureCall R f as' (as.any fun a => a.cells.any (lentC [])) with
        | some vs => some (resV vs, hp, ct)
        | none => none
      | none => none
    | none => none := by
  simp only [opK, evals_mk]
  cases traverse (fun o => (evσ nt σ o).one) l with
  | none => rfl
  | some as =>
    simp only [doCall, if_true, mkS_hp, mkS_ct]
    cases traverse (to1 true hp []) as with
    | none => rfl
    | some as' =>
      simp only [pureCall]
      cases R f as' [] with
      | none => rfl
      | some r =>
        obtain ⟨rs, h⟩ := r
        rfl

@[simp] theorem to1_int (h : Heap) (ids : List Nat) (k : IntKind) (n : Int) : to1 true h ids (.c (I (.int k n))) = some (.c (I (.int k n))) := by simp [to1, toC, toR, IV.retag]
@[simp] theorem to1_bool (h : Heap) (ids : List Nat) (b : Bool) : to1 true h ids (.c (I (.bool b))) = some (.c (I (.bool b))) := by simp [to1, toC, toR, IV.retag]
@[simp] theorem to1_str (h : Heap) (ids : List Nat) (b : List UInt8) : to1 true h ids (.c (I (.str b))) = some (.c (I (.str b))) := by simp [to1, toC, toR, IV.retag]
@[simp] theorem back1_int (h : Heap) (pl : List (Nat × Nat × Nat)) (lent : Bool) (k : IntKind) (n : Int) : back1 h pl lent (.c (I (.int k n))) = some (.c (I (.int k n))) := by simp [back1, backC, backR, IV.fresh]
@[simp] theorem back1_bool (h : Heap) (pl : List (Nat × Nat × Nat)) (lent : Bool) (b : Bool) : back1 h pl lent (.c (I (.bool b))) = some (.c (I (.bool b))) := by simp [back1, backC, backR, IV.fresh]
@[simp] theorem back1_str (h : Heap) (pl : List (Nat × Nat × Nat)) (lent : Bool) (b : List UInt8) : back1 h pl lent (.c (I (.str b))) = some (.c (I (.str b))) := by simp [back1, backC, backR, IV.fresh]

@[simp] theorem traverse_nil {α β : Type} (f : α → Option β) : traverse f [] = some [] := rfl
@[simp] theorem traverse_cons {α β : Type} (f : α → Option β) (a : α) (l : List α) : traverse f (a :: l) = match f a with
    | none => none
    | some b => match traverse f l with
      | none => none
      | some bs => some (b :: bs) := rfl

@[simp] theorem ini_nil (t : Nat) : ini [] t = .und := rfl
@[simp] theorem ini_zero (a : A1) (l : List A1) : ini (a :: l) 0 = .v a := rfl
@[simp] theorem ini_succ (a : A1) (l : List A1) (t : Nat) : ini (a :: l) (t + 1) = ini l t := by simp [ini]
@[simp] theorem andThen_normal {b : IR} {Q : Ex → Sl → Heap → Nat → Prop} : andThen G R nt b Q .normal σ hp ct = wpE G R nt b σ hp ct Q := rfl
@[simp] theorem andThen_ret {b : IR} {Q : Ex → Sl → Heap → Nat → Prop} : andThen G R nt b Q .ret σ hp ct = Q .ret σ hp ct := rfl
@[simp] theorem andThen_exit {b : IR} {Q : Ex → Sl → Heap → Nat → Prop} {i : Nat} : andThen G R nt b Q (.exit i) σ hp ct = Q (.exit i) σ hp ct := rfl
@[simp] theorem inBlk_normal {Q : Ex → Sl → Heap → Nat → Prop} {i : Nat} : inBlk i Q .normal σ hp ct = Q .normal σ hp ct := rfl
@[simp] theorem inBlk_ret {Q : Ex → Sl → Heap → Nat → Prop} {i : Nat} : inBlk i Q .ret σ hp ct = Q .ret σ hp ct := rfl
@[simp] theorem inBlk_exit {Q : Ex → Sl → Heap → Nat → Prop} {i j : Nat} : inBlk i Q (.exit j) σ hp ct = Q (if j = i then .normal else .exit j) σ hp ct := rfl
theorem again_normal {J : Nat → Sl → Heap → Nat → Prop} {m : Nat} {Q : Ex → Sl → Heap → Nat → Prop} : again J m Q .normal σ hp ct = ∃ m', m' < m ∧ J m' σ hp ct := rfl
theorem again_intro {J : Nat → Sl → Heap → Nat → Prop} {m : Nat} {Q : Ex → Sl → Heap → Nat → Prop} (m' : Nat) (h : m' < m) (hJ : J m' σ hp ct) : again J m Q .normal σ hp ct := ⟨m', h, hJ⟩
@[simp] theorem again_ret {J : Nat → Sl → Heap → Nat → Prop} {m : Nat} {Q : Ex → Sl → Heap → Nat → Prop} : again J m Q .ret σ hp ct = Q .ret σ hp ct := rfl
@[simp] theorem again_exit {J : Nat → Sl → Heap → Nat → Prop} {m i : Nat} {Q : Ex → Sl → Heap → Nat → Prop} : again J m Q (.exit i) σ hp ct = Q (.exit i) σ hp ct := rfl
@[simp] theorem wantσ_none : wantσ nt σ none = some true := rfl
@[simp] theorem wantσ_some (t : Nat) (b : Bool) : wantσ nt σ (some (t, b)) = match evσ nt σ (.t t) with
    | .v (.c (.r (.i (.bool c)))) => some (c == b)
    | .skp => some false
    | _ => none := rfl

@[simp] theorem atEnd_normal {res : List Res} {Q : List A1 → Heap → Prop} {σ : Sl} {hp : Heap} {ct : Nat} : atEnd nt res Q .normal σ hp ct = ∃ rs, traverse (readRσ nt σ hp) res = some rs ∧ Q rs hp := rfl
@[simp] theorem atEnd_ret {res : List Res} {Q : List A1 → Heap → Prop} {σ : Sl} {hp : Heap} {ct : Nat} : atEnd nt res Q .ret σ hp ct = ∃ rs, traverse (readRσ nt σ hp) res = some rs ∧ Q rs hp := rfl

@[simp] theorem readRσ_tmp (t : Nat) : readRσ nt σ hp (.tmp t) = (evσ nt σ (.t t)).one := rfl
@[simp] theorem resV_one (a : A1) : resV [a] = .v a := rfl
@[simp] theorem resV_two (a b : A1) : resV [a, b] = .tup [a, b] := rfl
@[simp] theorem resV_three (a b c : A1) : resV [a, b, c] = .tup [a, b, c] := rfl

theorem wrap_i64 {n : Int} (h1 : -9223372036854775808 ≤ n) (h2 : n ≤ 9223372036854775807) : IntKind.i64.wrap n = n := by
  simp [IntKind.wrap, IntKind.signed, IntKind.bits]
  omega
theorem wrap_u8 {n : Int} (h1 : 0 ≤ n) (h2 : n ≤ 255) : IntKind.u8.wrap n = n := by
  simp [IntKind.wrap, IntKind.signed, IntKind.bits]
  omega

theorem wrap_range (n : Int) : -9223372036854775808 ≤ IntKind.i64.wrap n ∧ IntKind.i64.wrap n ≤ 9223372036854775807 := by
  simp [IntKind.wrap, IntKind.signed, IntKind.bits]
  omega

@[simp] theorem retags_ints (t : Nat) (k : IntKind) (l : List Int) : IV.retags t (l.map (.int k)) = l.map (.int k) := by
  induction l with
  | nil => rfl
  | cons a l ih => simp [IV.retags, IV.retag, ih]

theorem at1 {α β : Type} (f : α → β) (l : List α) (i : Nat) (h : i < l.length) : List.take 1 (List.drop i (l.map f)) = [f l[i]] := by
  rw [List.drop_eq_getElem_cons (by simpa using h)]
  simp

@[simp] theorem Heap.get_one (b : Nat) (x : Blk) : Heap.get [(b, x)] b = some x := by simp [Heap.get]
@[simp] theorem Heap.cur_one (b : Nat) (x : Blk) : Heap.cur [(b, x)] b = some x.gen := by simp [Heap.cur]
@[simp] theorem Heap.row_one (b g : Nat) (cs : List AC) : Heap.row [(b, .cells g cs)] b g = some cs := by simp [Heap.row]
@[simp] theorem Heap.set_one (b : Nat) (x y : Blk) : Heap.set [(b, x)] b y = [(b, y)] := by simp [Heap.set]
@[simp] theorem gen_cells (g : Nat) (cs : List AC) : (Blk.cells g cs).gen = g := rfl

/-- No reference. -/
def A1.inl : A1 → Bool
  | .c (.r (.i _)) => true
  | .agg xs => xs.all fun | .r (.i _) => true | _ => false
  | _ => false

theorem refs_inl {give : Bool} {a : A1} (h : a.inl = true) : ∀ x ∈ a.cells, refC give x = [] := by
  intro x hx
  unfold A1.inl at h
  split at h
  · simp [A1.cells] at hx; subst hx; rfl
  · simp only [List.all_eq_true] at h
    have := h x hx
    split at this
    · rfl
    · simp at this
  · simp at h

theorem lent_inl {ids : List Nat} {a : A1} (h : a.inl = true) : a.cells.any (lentC ids) = false := by
  rw [List.any_eq_false]
  intro x hx
  unfold A1.inl at h
  split at h
  · simp [A1.cells] at hx; subst hx; simp [lentC, lentR]
  · simp only [List.all_eq_true] at h
    have := h x hx
    split at this
    · simp [lentC, lentR]
    · simp at this
  · simp at h

/-- A method of a block: the block's address comes first, then what is told in place. -/
theorem call_ptr {f b g : Nat} {l : List Opd} {as as' : List A1} {cs cs' cs2 cs3 : List AC} {rs vs : List A1} {h : Heap}
    (h1 : traverse (fun o => (evσ nt σ o).one) l = some (.c (.r (.ptr b g 0)) :: as)) (h2 : as.all A1.inl = true) (h3 : traverse (to1 true hp [b]) as = some as') (h4 : hp.get b = some (.cells g cs)) (h5 : traverse (toC false hp [b]) cs = some cs')
    (h6 : R f (.c (.r (.ptr PB 0 0)) :: as') [.cells 0 cs'] = some (rs, h)) (h7 : h.get PB = some (.cells 0 cs2)) (h8 : traverse (backC h [(PB, b, g)] false) cs2 = some cs3) (h9 : traverse (back1 h [(PB, b, g)] false) rs = some vs) :
    opK G R (mkS nt σ hp ct) d (.call f l { give := [], ad := [], pure := false }) = some (resV vs, hp.set b (.cells g cs3), ct + 1) := by
  have hids : refsOf [] (.c (.r (.ptr b g 0)) :: as) = [b] := by
    have : (as.zipIdx 1).flatMap (fun (a, i) => a.cells.zipIdx.flatMap fun (x, j) => refC (([] : List (Nat × Nat)).contains (i, j)) x) = [] := by
      rw [List.flatMap_eq_nil_iff]
      rintro ⟨a, i⟩ ha
      have ha : a ∈ as := by
        have := List.mem_zipIdx ha
        exact this.2.2 ▸ List.getElem_mem _
      rw [List.flatMap_eq_nil_iff]
      rintro ⟨x, j⟩ hx
      have hx : x ∈ a.cells := by
        have := List.mem_zipIdx hx
        exact this.2.2 ▸ List.getElem_mem _
      exact refs_inl (List.all_eq_true.1 h2 a ha) x hx
    unfold refsOf
    rw [List.zipIdx_cons, List.flatMap_cons, this]
    simp [A1.cells, List.zipIdx, refC, refR, ddup]
  have hlent : ((A1.c (.r (.ptr b g 0)) :: as).any fun a => a.cells.any (lentC [b])) = false := by
    rw [List.any_cons]
    have : (as.any fun a => a.cells.any (lentC [b])) = false := by
      rw [List.any_eq_false]
      intro a ha
      rw [lent_inl (List.all_eq_true.1 h2 a ha)]
      simp
    rw [this]
    simp [A1.cells, lentC, lentR, idxOf]
  have hcur : hp.cur b = some g := by simp [Heap.cur, h4]
  have hc2 : h.cur PB = some 0 := by simp [Heap.cur, h7]
  have hto : to1 true hp [b] (.c (.r (.ptr b g 0))) = some (.c (.r (.ptr PB 0 0))) := by simp [to1, toC, toR, idxOf, hcur]
  have hpl : placesOf h hp ct [b] [] = [(PB, b, g)] := by simp [placesOf, List.zipIdx, hc2, hcur]
  simp only [opK, evals_mk, h1, doCall, Bool.false_eq_true, if_false, mkS_hp, mkS_ct, hids]
  have ht : traverse (to1 true hp [b]) (.c (.r (.ptr b g 0)) :: as) = some (.c (.r (.ptr PB 0 0)) :: as') := by simp only [traverse, hto, h3]
  have hb : handOver hp [b] = some [.cells 0 cs'] := by simp [handOver, traverse, h4, toB, h5]
  rw [ht, hb]
  simp only [h6, hlent, show adOf [] rs = [] from rfl, hpl]
  have hbh : backH h [(PB, b, g)] false [(PB, b, g)] hp = some (hp.set b (.cells g cs3)) := by simp [backH, h7, backB, h8]
  simp [nodupB, h9, hbh]

/-- A method of a stream of numbers. -/
theorem call_stream (b g : Nat) {f : Nat} {l : List Opd} (as vs : List A1) {L0 : IV} {at1 at2 : Int} {rs : List A1} {h : Heap}
    (h6 : R f (.c (.r (.ptr PB 0 0)) :: as) [.cells 0 [I L0, I (.int .i64 at1)]] = some (rs, h)) (h7 : h.get PB = some (.cells 0 [I L0, I (.int .i64 at2)])) (hL : L0.retag 1 = L0)
    (h1 : traverse (fun o => (evσ nt σ o).one) l = some (.c (.r (.ptr b g 0)) :: as)) (h2 : as.all A1.inl = true) (h3 : traverse (to1 true hp [b]) as = some as) (h4 : hp.get b = some (.cells g [I L0, I (.int .i64 at1)])) 
    (h9 : traverse (back1 h [(PB, b, g)] false) rs = some vs) :
    opK G R (mkS nt σ hp ct) d (.call f l { give := [], ad := [], pure := false }) = some (resV vs, hp.set b (.cells g [I L0, I (.int .i64 at2)]), ct + 1) :=
  call_ptr h1 h2 h3 h4 (by simp [traverse, toC, toR, hL, IV.retag]) h6 h7 (by simp [traverse, backC, backR]) h9

theorem lay_one {cs : List AC} {i : Nat} {x : AC} (h : i < cs.length) : lay cs i [x] = cs.set i x := by
  apply List.ext_getElem?
  intro j
  have := lay_get (cs := cs) (new := [x]) (off := i) (by simp; omega) j
  rw [this]
  by_cases e : i = j
  · subst e; simp [h]
  · rw [List.getElem?_set_ne e]
    rw [if_neg (by simp; omega)]

theorem rd_inl (q : Nat → Bool) (h : Heap) (t n : Nat) (v : IV) : rd q h t n (I v) = some v := by
  cases n <;> simp [rd]

theorem rd_inls (q : Nat → Bool) (h : Heap) (t n : Nat) : ∀ (vs : List IV), traverse (rd q h t n) (vs.map I) = some vs
  | [] => rfl
  | v :: vs => by simp only [List.map_cons, traverse, rd_inl, rd_inls q h t n vs]

theorem rd_sl {q : Nat → Bool} {h : Heap} {t n b g sz len : Nat} {vs : List IV} (hq : q b = true) (h1 : h.row b g = some (vs.map I)) (h2 : vs.length = len * sz) : rd q h t (n + 1) (.r (.sl b g 0 sz len)) = some (.lit t vs len) := by
  simp only [rd, hq, if_true, h1, List.length_map, h2, Nat.zero_add, Nat.le_refl, List.drop_zero]
  rw [← h2, ← List.length_map (f := I), List.take_length, rd_inls]

@[simp] theorem freshs_ints (k : IntKind) (l : List Int) : IV.freshs (l.map (.int k)) = true := by
  induction l with
  | nil => rfl
  | cons a l ih => simp [IV.freshs, IV.fresh, ih]

@[simp] theorem freshs_ints' {α : Type} (k : IntKind) (f : α → Int) (l : List α) : IV.freshs (l.map fun x => .int k (f x)) = true := by
  induction l with
  | nil => rfl
  | cons a l ih => simp [IV.freshs, IV.fresh, ih]
@[simp] theorem retags_ints' {α : Type} (t : Nat) (k : IntKind) (f : α → Int) (l : List α) : IV.retags t (l.map fun x => .int k (f x)) = l.map fun x => .int k (f x) := by
  induction l with
  | nil => rfl
  | cons a l ih => simp [IV.retags, IV.retag, ih]

/-- New slices that are given back. -/
theorem back1_sl {h : Heap} {b g sz len : Nat} {lent : Bool} {vs : List IV} (h1 : h.row b g = some (vs.map I)) (h2 : vs.length = len * sz) (h3 : IV.freshs vs = true) : back1 h [] lent (.c (.r (.sl b g 0 sz len))) = some (.c (I (.lit 0 vs len))) := by
  have hr : rd (fun b => (backAt [] b).isNone) h 0 rdDepth (.r (.sl b g 0 sz len)) = some (.lit 0 vs len) := rd_sl (n := 5) rfl h1 h2
  simp [back1, backC, backR, backAt] at hr ⊢
  simp [hr, IV.fresh, h3]

/-- Slices that are lent. -/
theorem to1_sl {h : Heap} {b g sz len : Nat} {vs : List IV} (h1 : h.row b g = some (vs.map I)) (h2 : vs.length = len * sz) : to1 true h [] (.c (.r (.sl b g 0 sz len))) = some (.c (I (.lit 1 (IV.retags 1 vs) len))) := by
  have hr : rd (fun b => (idxOf [] b).isNone) h 1 rdDepth (.r (.sl b g 0 sz len)) = some (.lit 1 vs len) := rd_sl (n := 5) rfl h1 h2
  simp [to1, toC, toR, idxOf] at hr ⊢
  simp [hr, IV.retag]

@[simp] theorem to1_lit (h : Heap) (ids : List Nat) (t n : Nat) (k : IntKind) (l : List Int) : to1 true h ids (.c (I (.lit t (l.map (.int k)) n))) = some (.c (I (.lit 1 (l.map (.int k)) n))) := by simp [to1, toC, toR, IV.retag]
@[simp] theorem to1_nilS (h : Heap) (ids : List Nat) : to1 true h ids (.c (I .nilS)) = some (.c (I .nilS)) := by simp [to1, toC, toR, IV.retag]
@[simp] theorem back1_nilS (h : Heap) (pl : List (Nat × Nat × Nat)) (lent : Bool) : back1 h pl lent (.c (I .nilS)) = some (.c (I .nilS)) := by simp [back1, backC, backR, IV.fresh]

attribute [simp] wpL binV intBin shiftBin AV.int AV.nat AV.bool AV.strv AV.one A1.cells foldV maxI minI

end
end Go.Abs
