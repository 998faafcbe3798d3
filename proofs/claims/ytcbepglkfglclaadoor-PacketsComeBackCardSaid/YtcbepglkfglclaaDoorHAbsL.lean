/-
  The abstract machine beside Go's model: the check of operations, regions and code; the run of a function.
-/
import Derived.Test.YtcbepglkfglclaaDoorHAbsK
import Derived.Test.YtcbepglkfglclaaDoorHAbsI2
import Derived.LoopN
import Derived.Orders
namespace Go.Abs
open Go.RowKit

def intAny (P : Program) (t : Nat) : Bool := match P.underlying t with | some (.int _) => true | _ => false
theorem intAny_eq {P : Program} {t : Nat} (h : intAny P t = true) : ∃ k, intT P t k = true := by
  unfold intAny at h
  split at h
  · rename_i k hk; exact ⟨k, by simp [intT, hk]⟩
  · simp at h

/-- Is an operation of Go's what the small code says? -/
def okK (P : Program) (o : Oper) (k : K) : Bool :=
  match k, o.op with
  | .mov y, .move x => okOpd x y
  | .mov y, .assign x => okOpd x y
  | .pick a b c, .pick x y z => okOpd x a && okOpd y b && okOpd z c
  | .fld off n agg y, .field t x f => okOpd x y && fldOk P t f off n agg
  | .idx len sz agg y j, .index t x i => okOpd x y && okOpd i j && idxOk P t len sz agg
  | .idxS y j, .index t x i => okOpd x y && okOpd i j && isStrT P t
  | .bin op y z, .binOp op' _ x w _ => decide (op' = op) && okOpd x y && okOpd w z
  | .eqB neg y z, .binOp op' t x w _ => decide (op' = if neg then .neq else .eql) && okOpd x y && okOpd w z && isBoolT P t
  | .eqN neg ty y z, .binOp op' t x w _ => decide (op' = if neg then .neq else .eql) && okOpd x y && okOpd w z && nilKind P t ty
  | .un op y, .unOp op' _ x => decide (op' = op) && okOpd x y
  | .cvI k y, .convert t u x => okOpd x y && intAny P t && intT P u k
  | .cvIS y, .convert t u x => okOpd x y && intAny P t && isStrT P u
  | .cvSS y, .convert t u x => okOpd x y && isStrT P t && isStrT P u
  | .alloc cs, .alloc t => zeroOk P t cs
  | .box _ y, .box _ x => okOpd x y
  | .build zero places ps, .build t parts => okParts parts.toList ps && (buildOk P t zero places || buildAOk P t zero places)
  | .bsl sz len zero ps _, .buildSlice t len' parts => len == len' && okParts parts.toList ps && bslT P t sz zero
  | .load n agg y, .load t x => okOpd x y && tyOk P t n agg
  | .store n y z, .store t x w => okOpd x y && okOpd w z && (tyOk P t n true || tyOk P t n false)
  | .nilchk y, .nilCheck x => okOpd x y
  | .fadr off y, .fieldAddr t x f => okOpd x y && fadrOk P t f off
  | .iadr sz y j, .indexAddr t x i => okOpd x y && okOpd i j && slT P t sz
  | .iadrA len sz y j, .indexAddr t x i => okOpd x y && okOpd i j && arrT P t len sz
  | .slcS y lo hi, .slice t x lo' hi' none => okOpd x y && okOpt lo' lo && okOpt hi' hi && isStrT P t
  | .slc sz y lo hi none, .slice t x lo' hi' none => okOpd x y && okOpt lo' lo && okOpt hi' hi && slT P t sz
  | .slc sz y lo (some hi) (some mx), .slice t x lo' (some hi') (some mx') => okOpd x y && okOpt lo' lo && okOpd hi' hi && okOpd mx' mx && slT P t sz
  | .mksl sz bytes zero y z, .makeSlice t x w => okOpd x y && okOpd w z && mkslT P t sz bytes zero
  | .mkfn f l, .makeFunc (.func f') first caps => f == f' && first.toList.isEmpty && okOpds caps.toList l
  | .len ty y, .call { callee := .builtin .len, args := ⟨[x]⟩, argTypes := ⟨[t]⟩ } => okOpd x y && lenT P t ty
  | .mx l, .call { callee := .builtin .max, args := args, argTypes := _ } => okOpds args.toList l
  | .mn l, .call { callee := .builtin .min, args := args, argTypes := _ } => okOpds args.toList l
  | .app sz bytes str y z, .call { callee := .builtin .append, args := ⟨[x, w]⟩, argTypes := ⟨[t, tx]⟩ } => okOpd x y && okOpd w z && appT P t sz bytes && srcT P tx str
  | .appZ sz bytes zero y z, .call { callee := .builtin .append, args := ⟨[x, w]⟩, argTypes := ⟨[t, tx]⟩ } => okOpd x y && okOpd w z && appZT P t tx sz bytes zero
  | .ext y n, .extract x n' => n == n' && okOpd x y
  | .call f l _, .call { callee := .value (.func f'), args := args, argTypes := _ } => f == f' && okOpds args.toList l
  | .callv y l _, .call { callee := .value x, args := args, argTypes := _ } => okOpd x y && okOpds args.toList l
  | .cvBS y, .convert t u x => okOpd x y && isBytesT P t && isStrT P u
  | .mkmap, .makeMap _ none => true
  | .lkp kt zero agg ok m k, .lookup t x y ok' => ok' == ok && okOpd x m && okOpd y k && mapT P t kt && mapZ P t zero agg
  | .mupd kt m k v, .mapUpdate t x y z => okOpd x m && okOpd y k && okOpd z v && mapT P t kt
  | .ment kt zero agg m k, .mapEntry t x y => okOpd x m && okOpd y k && mapT P t kt && mapZ P t zero agg
  | .ests m k v, .entryStore _ x y z => okOpd x m && okOpd y k && okOpd z v
  | .eqv neg ks y z, .binOp op' t x w _ => decide (op' = if neg then .neq else .eql) && okOpd x y && okOpd w z && eqvOk P t ks
  | _, _ => false

def K.isCall : K → Bool
  | .call .. | .callv .. => true
  | _ => false

section
variable {P : Program} {X : Cx} {E : Env} {s : St} {a : Act} {o : Oper} {G : Nat → List IV} {d : Nat} {v : AV} {h' : Heap} {c' : Nat} {k : K}

theorem op_sound (hW : WR X E) (hG : GOk X G) (hT : TR X E s a) (hh : E.h = s.hp) (hc : E.ct = s.ct) (hk : okK P o k = true) (hn : k.isCall = false)
    (hs : step G s d k = some (v, h', c')) : OpOk P X E o a.eval v h' c' := by
  unfold okK at hk
  split at hk
  case h_1 ho => exact op_mov hW hT hh hc (.inl ho) hk hs
  case h_2 ho => exact op_mov hW hT hh hc (.inr ho) hk hs
  case h_3 ho => simp at hk; exact op_pick hW hT hh hc ho hk.1.1 hk.1.2 hk.2 hs
  case h_4 ho => simp at hk; exact op_fld hW hT hh hc ho hk.1 hk.2 hs
  case h_5 ho => simp at hk; exact op_idx hW hT hh hc ho hk.1.1 hk.1.2 hk.2 hs
  case h_6 ho => simp at hk; exact op_idxS hW hT hh hc ho hk.1.1 hk.1.2 hk.2 hs
  case h_7 ho => simp at hk; obtain ⟨⟨rfl, h1⟩, h2⟩ := hk; exact op_bin hW hT hh hc ho h1 h2 hs
  case h_8 ho => simp at hk; obtain ⟨⟨⟨rfl, h1⟩, h2⟩, h3⟩ := hk; exact op_eqB hW hT hh hc ho h1 h2 h3 hs
  case h_9 ho => simp at hk; obtain ⟨⟨⟨rfl, h1⟩, h2⟩, h3⟩ := hk; exact op_eqN hW hT hh hc ho h1 h2 h3 hs
  case h_10 ho => simp at hk; obtain ⟨rfl, h1⟩ := hk; exact op_un hW hT hh hc ho h1 hs
  case h_11 ho => simp at hk; obtain ⟨⟨h1, h2⟩, h3⟩ := hk; obtain ⟨k', hk'⟩ := intAny_eq h2; exact op_cvI hW hT hh hc ho h1 hk' h3 hs
  case h_12 ho => simp at hk; obtain ⟨⟨h1, h2⟩, h3⟩ := hk; obtain ⟨k', hk'⟩ := intAny_eq h2; exact op_cvIS hW hT hh hc ho h1 hk' h3 hs
  case h_13 ho => simp at hk; exact op_cvSS hW hT hh hc ho hk.1.1 hk.1.2 hk.2 hs
  case h_14 ho => exact op_alloc hW hh hc ho hk hs
  case h_15 ho => exact op_box hW hT hh hc ho hk hs
  case h_16 ho =>
    simp at hk; obtain ⟨h1, h2 | h2⟩ := hk
    · exact op_build hW hT hh hc ho h1 h2 hs
    · exact op_buildA hW hT hh hc ho h1 h2 hs
  case h_17 ho => simp at hk; obtain ⟨⟨rfl, h1⟩, h2⟩ := hk; exact op_bsl hW hT hh hc ho h1 h2 hs
  case h_18 ho => simp at hk; exact op_load hW hG hT hh hc ho hk.1 hk.2 hs
  case h_19 ho => simp at hk; obtain ⟨⟨h1, h2⟩, h3⟩ := hk; rcases h3 with h3 | h3 <;> exact op_store hW hT hh hc ho h1 h2 h3 hs
  case h_20 ho => exact op_nilchk hW hT hh hc ho hk hs
  case h_21 ho => simp at hk; exact op_fadr hW hT hh hc ho hk.1 hk.2 hs
  case h_22 ho => simp at hk; exact op_iadr hW hT hh hc ho hk.1.1 hk.1.2 hk.2 hs
  case h_23 ho => simp at hk; exact op_iadrA hW hT hh hc ho hk.1.1 hk.1.2 hk.2 hs
  case h_24 ho => simp at hk; exact op_slcS hW hT hh hc ho hk.1.1.1 hk.1.1.2 hk.1.2 hk.2 hs
  case h_25 ho => simp at hk; exact op_slc hW hT hh hc ho hk.1.1.1 hk.1.1.2 hk.1.2 hk.2 hs
  case h_26 ho => simp at hk; exact op_slc0 hW hT hh hc ho hk.1.1.1.1 hk.1.1.1.2 hk.1.1.2 hk.1.2 hk.2 hs
  case h_27 ho => simp at hk; exact op_mksl hW hT hh hc ho hk.1.1 hk.1.2 hk.2 hs
  case h_28 first caps ho =>
    simp at hk; obtain ⟨⟨rfl, h1⟩, h2⟩ := hk
    subst h1
    exact op_mkfn hW hT hh hc ho h2 hs
  case h_29 ho => simp at hk; exact op_len hW hT hh hc ho hk.1 hk.2 hs
  case h_30 ho => exact op_mx hW hT hh hc ho hk hs
  case h_31 ho => exact op_mn hW hT hh hc ho hk hs
  case h_32 ho => simp at hk; exact op_app hW hT hh hc ho hk.1.1.1 hk.1.1.2 hk.1.2 hk.2 hs
  case h_33 ho => simp at hk; exact op_appZ hW hT hh hc ho hk.1.1 hk.1.2 hk.2 hs
  case h_34 ho => simp at hk; obtain ⟨rfl, h1⟩ := hk; exact op_ext hW hT hh hc ho h1 hs
  case h_35 => simp [K.isCall] at hn
  case h_36 => simp [K.isCall] at hn
  case h_37 ho => simp at hk; exact op_cvBS hW hT hh hc ho hk.1.1 hk.1.2 hk.2 hs
  case h_38 ho => exact op_mkmap hW hh hc ho hs
  case h_39 ho => simp at hk; obtain ⟨⟨⟨⟨rfl, h1⟩, h2⟩, h3⟩, h4⟩ := hk; exact op_lkp hW hT hh hc ho h1 h2 h3 h4 hs
  case h_40 ho => simp at hk; exact op_mupd hW hT hh hc ho hk.1.1.1 hk.1.1.2 hk.1.2 hk.2 hs
  case h_41 ho => simp at hk; exact op_ment hW hT hh hc ho hk.1.1.1 hk.1.1.2 hk.1.2 hk.2 hs
  case h_42 ho => simp at hk; exact op_ests hW hT hh hc ho hk.1.1 hk.1.2 hk.2 hs
  case h_43 ho => simp at hk; obtain ⟨⟨⟨rfl, h1⟩, h2⟩, h3⟩ := hk; exact op_eqv hW hT hh hc ho h1 h2 h3 hs
  case h_44 => simp at hk

/-- WHAT A CALL COMES TO: a function that is entered, or one without a body. -/
def CallOk (P : Program) (f : Nat) (args : Array Value) (w : World) (post : Value → World → Prop) : Prop :=
  ((callFunc f args).run P w = .ok (.enter f args) w ∧ Calls P f args w fun e w' => ∃ v, e = .returned v ∧ post v w') ∨ (∃ v w', (callFunc f args).run P w = .ok (.value v) w' ∧ post v w')

theorem CallOk.mono {f : Nat} {args : Array Value} {w : World} {post post' : Value → World → Prop} (h : CallOk P f args w post) (g : ∀ v w', post v w' → post' v w') : CallOk P f args w post' := by
  rcases h with ⟨h1, h2⟩ | ⟨v, w', h1, h2⟩
  · exact .inl ⟨h1, h2.mono fun e w' ⟨v, he, hp⟩ => ⟨v, he, g v w' hp⟩⟩
  · exact .inr ⟨v, w', h1, g v w' h2⟩

/-- What is returned: one value, or a tuple. -/
def retV : List Value → Value
  | [a] => a
  | l => .tuple l.toArray

/-- A way of running functions that Go's model follows. -/
def RunOk (P : Program) (G : Nat → List IV) (R : Run) : Prop :=
  ∀ f args bs rs h, R f args bs = some (rs, h) → ∀ (X : Cx) (ids : List Nat) (E0 : Env) (lent : Bool) (cargs : List Value), let X' := calleeX X E0 ids lent; let E := calleeE E0 ids bs
    WR X' E → GOk X' G → All2 (A1R X' E) args cargs →
    CallOk P f cargs.toArray E.w fun v w' => ∃ E', E'.w = w' ∧ E'.h = h ∧ WR X' E' ∧ Ext X' E E' ∧ ∃ vs, All2 (A1R X' E') rs vs ∧ v = retV vs

theorem resV_sound {rs : List A1} {vs : List Value} (h : All2 (A1R X E) rs vs) : AVR X E (resV rs) (retV vs) := by
  cases h with
  | nil => exact ⟨[], rfl, .nil⟩
  | cons h1 h2 =>
    cases h2 with
    | nil => exact h1
    | cons h2 h3 => exact ⟨_, rfl, .cons h1 (.cons h2 h3)⟩

theorem doCall_sound {R : Run} (hR : RunOk P G R) (hW : WR X E) (hG : GOk X G) (hh : E.h = s.hp) (hc : E.ct = s.ct) {f : Nat} {args : List A1} {how : How} {cargs : List Value} (ha : All2 (A1R X E) args cargs)
    (hs : doCall R s f args how = some (v, h', c')) :
    CallOk P f cargs.toArray E.w fun x w' => ∃ E2, E2.w = w' ∧ E2.h = h' ∧ E2.ct = c' ∧ WR X E2 ∧ Ext X E E2 ∧ E.w.heap.size ≤ E2.w.heap.size ∧ AVR X E2 v x := by
  unfold doCall at hs
  rw [← hh, ← hc] at hs
  have aux : ∀ (ids : List Nat) (lent : Bool) (bs : List Blk) {l : List A1} {m : List Value} {l' : List A1}, All2 (A1R X E) l m → traverse (to1 true E.h ids) l = some l' → (∀ x ∈ l, ∀ z ∈ x.cells, lentC ids z = true → lent = true) →
      All2 (A1R (calleeX X E ids lent) (calleeE E ids bs)) l' m := by
    intro ids lent bs l m l' h
    induction h generalizing l' with
    | nil => intro e _; simp [traverse] at e; subst e; exact .nil
    | cons h _ ih =>
      intro e hx
      simp only [traverse] at e
      split at e
      · simp at e
      · rename_i b hb
        split at e
        · simp at e
        · rename_i bs' hbs
          simp at e; subst e
          exact .cons (to1_sound hW h hb (hx _ (.head _))) (ih hbs fun x hx' => hx x (.tail _ hx'))
  have lent_of : ∀ (ids : List Nat) (x : A1), x ∈ args → ∀ z ∈ x.cells, lentC ids z = true → (args.any fun a => a.cells.any (lentC ids)) = true := fun ids x hx z hz hl =>
    List.any_eq_true.2 ⟨x, hx, List.any_eq_true.2 ⟨z, hz, hl⟩⟩
  split at hs
  · split at hs
    · rename_i as has
      split at hs
      · rename_i rs h hrun
        split at hs
        · rename_i vs hvs
          simp at hs
          obtain ⟨rfl, rfl, rfl⟩ := hs
          generalize hl : (args.any fun a => a.cells.any (lentC [])) = lent at hvs
          have ha' := aux [] lent [] ha has (fun x hx z hz hq => by rw [← hl]; exact lent_of [] x hx z hz hq)
          refine (hR f as [] rs h hrun X [] E lent cargs (callee_wr hW rfl rfl) (callee_gok hW hG) ha').mono ?_
          rintro x w' ⟨E', rfl, rfl, hW', hE', ws, hr, rfl⟩
          let E2 : Env := { h := E.h, m := E.m, ct := E.ct, w := E'.w }
          have hS : Same E E2 := ⟨rfl, rfl, rfl, hW'.size, fun k hk => hW'.still k hk (by rintro ⟨b, i, b', _, h2, _⟩; simp at h2), hW'.os, hW'.tape, hW'.output⟩
          have hW2 := hS.wr hW
          have hlive : ∀ c, E2.live c ∨ (X.H c).isSome = true → c < E.w.heap.size := by
            rintro c (⟨b, h1, h2⟩ | hH)
            · obtain ⟨y, hy⟩ := Option.isSome_iff_exists.1 h1
              have := hW.lt (b := b) hy
              simp only [E2] at h2
              omega
            · obtain ⟨o, ho⟩ := Option.isSome_iff_exists.1 hH
              exact (Array.getElem?_eq_some_iff.1 (hW.hid c o ho).1).1
          have hB : Back X (calleeX X E [] lent) E' E2 [] lent := by
            refine ⟨rfl, fun k c g h => by simp [backAt] at h, fun c h => ?_, fun hlf t c h => ?_, fun b y _ hy => ?_⟩
            · rcases h with ⟨h1, h2⟩ | ⟨h1, _⟩
              · have h1 : E.w.heap.size ≤ c := h1
                exact .inl ⟨Nat.le_trans hW.size h1, fun hl => by have := hlive c hl; omega⟩
              · exact absurd rfl h1
            · rcases h with ⟨h1, h2⟩ | ⟨h1, h2, h3, h4⟩
              · have h1 : E.w.heap.size ≤ c := h1
                exact .inl ⟨Nat.le_trans hW.size h1, fun hl => by have := hlive c hl; omega⟩
              · rcases h4 with h4 | h4
                · rw [hlf] at h4; simp at h4
                · rcases h4 with h5 | h5
                  · exact .inl ⟨h5.1, fun hl => h5.2 hl⟩
                  · exact .inr ⟨h1, h5.2⟩
            · rcases (hW'.blk b y hy).2.2 with h1 | ⟨i, b', _, h2, _⟩
              · have h1 : E.w.heap.size ≤ (E'.m b).1 := h1
                exact .inl ⟨Nat.le_trans hW.size h1, fun hl => by have := hlive _ hl; omega⟩
              · simp at h2
          refine ⟨E2, rfl, rfl, rfl, hW2, hS.ext, hW'.size, resV_sound (hr.of_traverse (fun _ _ _ r e => back1_sound hW' hB r e) hvs)⟩
        · simp at hs
      · simp at hs
    · simp at hs
  · simp only at hs
    generalize hids : refsOf how.give args = ids at hs
    split at hs
    · rename_i as bs has hbs
      split at hs
      · rename_i rs h hrun
        split at hs
        · rename_i hchk
          split at hs
          · rename_i vs hp hvs hhp
            simp at hs
            obtain ⟨rfl, rfl, rfl⟩ := hs
            simp only [Bool.and_eq_true] at hchk
            obtain ⟨⟨⟨hn, had⟩, hn1⟩, hn2⟩ := hchk
            generalize hl : (args.any fun a => a.cells.any (lentC ids)) = lent at hvs hhp
            have ha' := aux ids lent bs ha has (fun x hx z hz hq => by rw [← hl]; exact lent_of ids x hx z hz hq)
            refine (hR f as bs rs h hrun X ids E lent cargs (callee_wr hW hn hbs) (callee_gok hW hG) ha').mono ?_
            rintro x w' ⟨E', rfl, rfl, hW', hE', ws, hr, rfl⟩
            obtain ⟨E2, f1, f2, f3, f4, f5, f6, f7⟩ := ret_wr hW hn hbs hW' hE' had hn1 hn2 hhp
            exact ⟨E2, f1, f2, f3, f4, f5, f6, resV_sound (hr.of_traverse (fun _ _ _ r e => back1_sound hW' f7 r e) hvs)⟩
          · simp at hs
        · simp at hs
      · simp at hs
    · simp at hs

/-- AN OPERATION IN A REGION. -/
def OpGo (P : Program) (X : Cx) (E : Env) (o : Oper) (a : Act) (v : AV) (h' : Heap) (ct' : Nat) : Prop :=
  ∀ (next : Act → World → Prop) (Q : Exit → Act → World → Prop),
    (∀ E' x, E'.h = h' → E'.ct = ct' → WR X E' → Ext X E E' → E.w.heap.size ≤ E'.w.heap.size → AVR X E' v x → next (a.put o.dst x) E'.w) → o.wp P a E.w next Q

theorem OpOk.go (h : OpOk P X E o a.eval v h' c') : OpGo P X E o a v h' c' := by
  intro next Q hn
  obtain ⟨E', nx, hr, h1, h2, h3, h4, h5, h6⟩ := h
  unfold Oper.wp
  rw [hr]
  rcases h6 with ⟨x, rfl, hx⟩ | ⟨rfl, rfl⟩
  · exact hn E' x h1 h2 h3 h4 h5 hx
  · exact hn E' undef h1 h2 h3 h4 h5 trivial

theorem evals_sound (hT : TR X E s a) : ∀ {l : List Operand} {m : List Opd} {as : List A1}, okOpds l m = true → evals s m = some as → All2 (A1R X E) as (l.map a.eval)
  | [], [], as, _, e => by simp [evals, traverse] at e; subst e; exact .nil
  | x :: l, y :: m, as, h, e => by
    simp [okOpds] at h
    simp only [evals, traverse] at e
    split at e
    · simp at e
    · rename_i b hb
      split at e
      · simp at e
      · rename_i bs hbs
        simp at e
        subst e
        refine .cons ?_ (evals_sound hT h.2 hbs)
        have r := ev_sound hT h.1
        cases hq : ev s y with
        | v w =>
          rw [hq] at r
          simp [hq, AV.one] at hb
          subst hb
          exact r
        | und => simp [hq, AV.one] at hb
        | skp => simp [hq, AV.one] at hb
        | tup l => simp [hq, AV.one] at hb
  | [], _ :: _, _, h, _ => by simp [okOpds] at h
  | _ :: _, [], _, h, _ => by simp [okOpds] at h

theorem call_go {f : Nat} {args : Array Operand} {ts : Array TypeId} {fx : Operand} {caps : Array Value} {cargs : List Value}
    (ho : o.op = .call { callee := .value fx, args := args, argTypes := ts }) (hf : a.eval fx = .func (.func f) #[] caps) (hq : cargs.toArray = args.map a.eval ++ caps)
    (h : CallOk P f cargs.toArray E.w fun x w' => ∃ E2, E2.w = w' ∧ E2.h = h' ∧ E2.ct = c' ∧ WR X E2 ∧ Ext X E E2 ∧ E.w.heap.size ≤ E2.w.heap.size ∧ AVR X E2 v x) : OpGo P X E o a v h' c' := by
  intro next Q hn
  have hrun : (execOp a.eval o).run P E.w = (callFunc f cargs.toArray).run P E.w := by
    rw [hq]
    simp [execOp, ho, resolve, Deferred.ofValue, hf, invoke]
  unfold Oper.wp
  rw [hrun]
  rcases h with ⟨h1, h2⟩ | ⟨x, w', h1, E2, rfl, g1, g2, g3, g4, g5, g6⟩
  · rw [h1]
    refine h2.mono ?_
    rintro e w' ⟨x, rfl, E2, rfl, g1, g2, g3, g4, g5, g6⟩
    exact hn E2 x g1 g2 g3 g4 g5 g6
  · rw [h1]
    exact hn E2 x g1 g2 g3 g4 g5 g6

theorem opK_sound {R : Run} (hR : RunOk P G R) (hW : WR X E) (hG : GOk X G) (hT : TR X E s a) (hh : E.h = s.hp) (hc : E.ct = s.ct) (hk : okK P o k = true)
    (hs : opK G R s d k = some (v, h', c')) : OpGo P X E o a v h' c' := by
  cases hcall : k.isCall with
  | false =>
    refine (op_sound hW hG hT hh hc hk hcall (G := G) (d := d) ?_).go
    cases k <;> first | exact hs | simp [K.isCall] at hcall
  | true =>
    cases k <;> simp [K.isCall] at hcall
    case call f l how =>
      simp only [opK] at hs
      split at hs
      · rename_i as has
        unfold okK at hk
        split at hk <;> simp_all
        rename_i f' args ts ho
        obtain ⟨rfl, h1⟩ := hk
        have hae := evals_sound hT h1 has
        have hcs := doCall_sound hR hW hG hh hc hae hs
        exact call_go ho rfl (by apply Array.ext'; simp) hcs
      · simp at hs
    case callv y l how =>
      simp only [opK] at hs
      have hk2 : ∃ x args ts, o.op = .call { callee := .value x, args := args, argTypes := ts } ∧ okOpd x y = true ∧ okOpds args.toList l = true := by
        unfold okK at hk
        split at hk <;> simp_all
        exact ⟨_, _, ⟨rfl, rfl⟩, hk⟩
      obtain ⟨x, args, ts, ho, h1, h2⟩ := hk2
      have rx := ev_sound hT h1
      split at hs
      · rename_i as f caps has hx
        rw [hx] at rx
        have rx2 : VR _ _ _ _ := rx
        have hae := evals_sound hT h2 has
        generalize hq : a.eval x = q at rx2
        cases rx2 with
        | clo _ _ ws hl hr =>
          have hcaps : All2 (A1R X E) (caps.map fun v => .c (I v)) ws := by
            have : All2 (VR (okc X E) E.w.heap) caps ws := All2.of_get hl hr
            exact this.map _ fun _ _ r => r
          have hcs := doCall_sound hR hW hG hh hc (hae.append hcaps) hs
          exact call_go ho hq (by apply Array.ext'; simp) hcs
      · rename_i as f caps has hx
        rw [hx] at rx
        have hae := evals_sound hT h2 has
        obtain ⟨ws, hq, hr⟩ := rx
        have hcaps : All2 (A1R X E) (caps.map fun v => .c (.r v)) ws := hr.map _ fun _ _ r => r
        have hcs := doCall_sound hR hW hG hh hc (hae.append hcaps) hs
        exact call_go ho hq (by apply Array.ext'; simp) hcs
      · simp at hs

end
end Go.Abs
