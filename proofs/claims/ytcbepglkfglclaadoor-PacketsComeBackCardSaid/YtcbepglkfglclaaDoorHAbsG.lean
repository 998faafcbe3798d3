/-
  The abstract machine beside Go's model: one operation after the other (4): slices, append.
-/
import Derived.Test.YtcbepglkfglclaaDoorHAbsF
import Derived.Room.Entries
import Derived.Laws.MakeOwn
namespace Go.Abs
open Go.RowKit

section
variable {P : Program} {X : Cx} {E : Env} {s : St} {a : Act} {o : Oper} {G : Nat → List IV} {d : Nat} {v : AV} {h' : Heap} {c' : Nat}

/-- A slice's type: the cells of an element. -/
def slT (P : Program) (t sz : Nat) : Bool :=
  match P.underlying t with
  | some (.slice e) => match P.info? e with
    | some i => i.size == sz
    | none => false
  | _ => false

theorem slT_eq {t sz : Nat} (h : slT P t sz = true) : ∃ e i, P.underlying t = some (.slice e) ∧ P.info? e = some i ∧ i.size = sz := by
  unfold slT at h
  split at h
  · rename_i e hu
    split at h
    · rename_i i hi
      simp at h
      exact ⟨e, i, hu, hi, h⟩
    · simp at h
  · simp at h

theorem op_iadr (hW : WR X E) (hT : TR X E s a) (hh : E.h = s.hp) (hc : E.ct = s.ct) {t sz : Nat} {x i : Operand} {x' i' : Opd} (ho : o.op = .indexAddr t x i)
    (hx : okOpd x x' = true) (hi : okOpd i i' = true) (ht : slT P t sz = true) (hs : step G s d (.iadr sz x' i') = some (v, h', c')) : OpOk P X E o a.eval v h' c' := by
  have rx := ev_sound hT hx
  have ri := ev_sound hT hi
  obtain ⟨e, it, hu, hit, hsz⟩ := slT_eq ht
  have run : ∀ ad len cap k (n : Nat), a.eval x = .slice (some ad) len cap → a.eval i = .int k n → n < len →
      (execOp a.eval o).run P E.w = .ok (.value (.pointer (some (ad.add (n * sz))))) E.w := fun ad len cap k n h1 h2 h3 => by
    simp [execOp, ho, h1, h2, Instr.indexAt, run_underlying hu, asIntOf, h3, sizeOf, typeInfo, hit, hsz]
  simp only [step] at hs
  split at hs
  · rename_i b g off sz' len n e1 e2
    split at hs
    · rename_i hcond
      obtain ⟨rfl, hlt, hcur⟩ := hcond
      simp at hs
      obtain ⟨rfl, rfl, rfl⟩ := hs
      rw [e1] at rx
      obtain ⟨k, hk⟩ := nat_sound ri e2
      rw [← hh, ← hc]
      obtain ⟨q1, q2, q3⟩ := rx
      obtain ⟨q4, q5⟩ := q3 (by rw [hh]; exact hcur)
      rcases q5 with ⟨cap, q5, _⟩ | ⟨q5, _⟩
      · refine OpOk.pure hW (run _ _ _ _ _ q5 hk hlt) ⟨rfl, q2, fun _ => ⟨by omega, ?_⟩⟩
        rw [addr_add]
        congr 3
        omega
      · omega
    · simp at hs
  · rename_i tt cs len n e1 e2
    split at hs
    · rename_i hcond
      obtain ⟨hlt, hlen⟩ := hcond
      simp at hs
      obtain ⟨rfl, rfl, rfl⟩ := hs
      rw [e1] at rx
      obtain ⟨k, hk⟩ := nat_sound ri e2
      rw [← hh, ← hc]
      have rx2 : VR _ _ _ _ := rx
      generalize hq : a.eval x = q at rx2
      cases rx2 with
      | lit _ _ _ c o2 cap cc e fr vs h1 h2 h3 h4 h5 h6 =>
        refine OpOk.pure hW (run _ _ _ _ _ hq hk hlt) ?_
        rw [addr_add]
        refine VR.lp _ _ c _ cc e fr ((vs.drop (n * sz)).take sz) h1 h2 (by simp [h3]) (fun i v hv => ?_) (fun i x v hx hv => ?_)
        · rw [List.getElem?_take] at hv
          split at hv
          · rw [List.getElem?_drop] at hv
            rw [Nat.add_assoc]; exact h4 _ v hv
          · simp at hv
        · rw [List.getElem?_take] at hx hv
          split at hx
          · rename_i hi2
            rw [if_pos hi2] at hv
            rw [List.getElem?_drop] at hx hv
            exact h5 _ x v hx hv
          · simp at hx
      | lit0 _ _ cap ad h =>
        refine OpOk.pure hW (run _ _ _ _ _ hq hk hlt) ?_
        simp
        exact VR.lp0 _ _
    · simp at hs
  · simp at hs

/-- An array's type: its length, the cells of an element. -/
def arrT (P : Program) (t len sz : Nat) : Bool :=
  match P.underlying t with
  | some (.array n e) => n == len && (match P.info? e with
    | some i => i.size == sz
    | none => false)
  | _ => false

theorem arrT_eq {t len sz : Nat} (h : arrT P t len sz = true) : ∃ e i, P.underlying t = some (.array len e) ∧ P.info? e = some i ∧ i.size = sz := by
  unfold arrT at h
  split at h
  · rename_i n e hu
    simp at h
    obtain ⟨rfl, h⟩ := h
    split at h
    · rename_i i hi
      simp at h
      exact ⟨e, i, hu, hi, h⟩
    · simp at h
  · simp at h

theorem op_iadrA (hW : WR X E) (hT : TR X E s a) (hh : E.h = s.hp) (hc : E.ct = s.ct) {t len sz : Nat} {x i : Operand} {x' i' : Opd} (ho : o.op = .indexAddr t x i)
    (hx : okOpd x x' = true) (hi : okOpd i i' = true) (ht : arrT P t len sz = true) (hs : step G s d (.iadrA len sz x' i') = some (v, h', c')) : OpOk P X E o a.eval v h' c' := by
  have rx := ev_sound hT hx
  have ri := ev_sound hT hi
  obtain ⟨e, it, hu, hit, hsz⟩ := arrT_eq ht
  have run : ∀ ad k (n : Nat), a.eval x = .pointer (some ad) → a.eval i = .int k n → n < len →
      (execOp a.eval o).run P E.w = .ok (.value (.pointer (some (ad.add (n * sz))))) E.w := fun ad k n h1 h2 h3 => by
    simp [execOp, ho, h1, h2, Instr.indexAt, run_underlying hu, asIntOf, Instr.sureAddr, h3, sizeOf, typeInfo, hit, hsz]
  simp only [step] at hs
  split at hs
  · rename_i b g off n e1 e2
    split at hs
    · rename_i hcond
      obtain ⟨hlt, hcur⟩ := hcond
      simp at hs
      obtain ⟨rfl, rfl, rfl⟩ := hs
      rw [e1] at rx
      obtain ⟨k, hk⟩ := nat_sound ri e2
      rw [← hh, ← hc]
      obtain ⟨q1, q2, q3⟩ := rx
      obtain ⟨q4, q5⟩ := q3 (by rw [hh]; exact hcur)
      refine OpOk.pure hW (run _ _ _ q5 hk hlt) ⟨rfl, q2, fun _ => ⟨by omega, ?_⟩⟩
      rw [addr_add]
      congr 3
      omega
    · simp at hs
  · rename_i g off n e1 e2
    split at hs
    · rename_i hlt
      simp at hs
      obtain ⟨rfl, rfl, rfl⟩ := hs
      rw [e1] at rx
      obtain ⟨k, hk⟩ := nat_sound ri e2
      rw [← hh, ← hc]
      have rx2 : VR _ _ _ _ := rx
      generalize hq : a.eval x = q at rx2
      cases rx2
      refine OpOk.pure hW (run _ _ _ hq hk hlt) ?_
      rw [addr_add]
      exact VR.gp _ _
    · simp at hs
  · simp at hs

def okOpt : Option Operand → Option Opd → Bool
  | none, none => true
  | some x, some y => okOpd x y
  | _, _ => false

theorem bound_sound (hT : TR X E s a) {x : Option Operand} {x' : Option Opd} (hx : okOpt x x' = true) {dflt n : Nat} (hb : bound dflt s x' = some n) :
    (x = none ∧ n = dflt) ∨ (∃ y k, x = some y ∧ a.eval y = .int k (n : Int)) := by
  unfold okOpt at hx
  split at hx
  · simp [bound] at hb; exact .inl ⟨rfl, hb.symm⟩
  · rename_i y y'
    obtain ⟨k, hk⟩ := nat_sound (ev_sound hT hx) hb
    exact .inr ⟨y, k, rfl, hk⟩
  · simp at hx

theorem run_bounds (hT : TR X E s a) {lo hi : Option Operand} {lo' hi' : Option Opd} (hlo : okOpt lo lo' = true) (hhi : okOpt hi hi' = true) {l h len cap : Nat} (h1 : bound 0 s lo' = some l)
    (h2 : bound len s hi' = some h) (h3 : l ≤ h) (h4 : h ≤ len) (h5 : len ≤ cap) (b : Bool) (w : World) : (Instr.sliceBounds b len cap (lo.map a.eval) (hi.map a.eval) none).run P w = .ok (l, h, cap) w := by
  rcases bound_sound hT hlo h1 with ⟨rfl, rfl⟩ | ⟨y, k, rfl, hy⟩ <;> rcases bound_sound hT hhi h2 with ⟨rfl, rfl⟩ | ⟨z, k2, rfl, hz⟩
  · simp [Instr.sliceBounds]
  · simp only [Instr.sliceBounds, Option.map_none, Option.map_some, Sem.run_bind, Sem.run_pure, Result.andThen_ok, hz]
    rw [run_sliceBound _ _ _ _ _ (by omega) (by omega)]
    simp
  · simp only [Instr.sliceBounds, Option.map_none, Option.map_some, Sem.run_bind, Sem.run_pure, Result.andThen_ok, hy]
    rw [run_sliceBound _ _ _ _ _ (by omega) (by omega)]
    simp
  · simp only [Instr.sliceBounds, Option.map_some, Sem.run_bind, Sem.run_pure, Result.andThen_ok, hy, hz]
    rw [run_sliceBound _ _ _ _ _ (by omega) (by omega)]
    simp only [Result.andThen_ok]
    rw [run_sliceBound _ _ _ _ _ (by omega) (by omega)]
    simp

theorem op_slcS (hW : WR X E) (hT : TR X E s a) (hh : E.h = s.hp) (hc : E.ct = s.ct) {t : Nat} {x : Operand} {x' : Opd} {lo hi : Option Operand} {lo' hi' : Option Opd} (ho : o.op = .slice t x lo hi none)
    (hx : okOpd x x' = true) (hlo : okOpt lo lo' = true) (hhi : okOpt hi hi' = true) (ht : isStrT P t = true) (hs : step G s d (.slcS x' lo' hi') = some (v, h', c')) : OpOk P X E o a.eval v h' c' := by
  have rx := ev_sound hT hx
  have hu := isStrT_eq ht
  simp only [step] at hs
  split at hs
  · rename_i l e1
    obtain ⟨z, hz, rfl⟩ := str_sound rx e1
    split at hs
    · rename_i p q e2 e3
      split at hs
      · rename_i hcond
        obtain ⟨r, h1, rfl, rfl, rfl⟩ := okv_eq hs
        simp at h1; subst h1
        rw [← hh, ← hc]
        have hl : z.data.toList.length = z.size := Array.length_toList
        rw [hl] at e3 hcond
        have hb := run_bounds (P := P) hT hlo hhi e2 e3 hcond.1 hcond.2 (Nat.le_refl _) false E.w
        refine OpOk.pure hW (x := .string (z.extract p q)) ?_ (VR.str _ _ ?_)
        · simp [execOp, ho, hz, Instr.sliceAt, run_underlying hu, Instr.slice, hb]
        · rw [ByteArray.data_extract, Array.toList_extract]
      · simp at hs
    · simp at hs
  · simp at hs

theorem op_slc (hW : WR X E) (hT : TR X E s a) (hh : E.h = s.hp) (hc : E.ct = s.ct) {t sz : Nat} {x : Operand} {x' : Opd} {lo hi : Option Operand} {lo' hi' : Option Opd} (ho : o.op = .slice t x lo hi none)
    (hx : okOpd x x' = true) (hlo : okOpt lo lo' = true) (hhi : okOpt hi hi' = true) (ht : slT P t sz = true) (hs : step G s d (.slc sz x' lo' hi' none) = some (v, h', c')) : OpOk P X E o a.eval v h' c' := by
  have rx := ev_sound hT hx
  obtain ⟨e, it, hu, hit, hsz⟩ := slT_eq ht
  have run : ∀ ad len cap p q, a.eval x = .slice ad len cap → bound 0 s lo' = some p → bound len s hi' = some q → p ≤ q → q ≤ len → len ≤ cap →
      (execOp a.eval o).run P E.w = .ok (.value (.slice (if cap = p then ad else ad.map (·.add (p * sz))) (q - p) (cap - p))) E.w := fun ad len cap p q h1 h2 h3 h4 h5 h6 => by
    have hb := run_bounds (P := P) hT hlo hhi h2 h3 h4 h5 h6 true E.w
    simp [execOp, ho, h1, Instr.sliceAt, run_underlying hu, Instr.slice, hb, sizeOf, typeInfo, hit, hsz]
  simp only [step] at hs
  split at hs
  · rename_i e1
    split at hs
    · rename_i e2 e3 e4
      simp at hs
      obtain ⟨rfl, rfl, rfl⟩ := hs
      rw [e1] at rx
      rw [← hh, ← hc]
      have rx2 : VR _ _ _ _ := rx
      generalize hq : a.eval x = q at rx2
      cases rx2
      have := run none 0 0 0 0 hq e2 e3 (by omega) (by omega) (by omega)
      exact OpOk.pure hW this VR.nilS
    · simp at hs
  · rename_i e1
    split at hs
    · rename_i e2 e3 e4
      simp at hs
      obtain ⟨rfl, rfl, rfl⟩ := hs
      rw [e1] at rx
      rw [← hh, ← hc]
      have rx2 : VR _ _ _ _ := rx
      generalize hq : a.eval x = q at rx2
      cases rx2 with
      | emp ad =>
        have := run (some ad) 0 0 0 0 hq e2 e3 (by omega) (by omega) (by omega)
        exact OpOk.pure hW this (VR.emp ad)
    · simp at hs
  · rename_i tt cs len e1
    split at hs
    · rename_i p q e2 e3
      split at hs
      · rename_i hcond
        obtain ⟨h4, h5, h6⟩ := hcond
        simp at hs
        obtain ⟨rfl, rfl, rfl⟩ := hs
        rw [e1] at rx
        rw [← hh, ← hc]
        have rx2 : VR _ _ _ _ := rx
        generalize hq : a.eval x = qq at rx2
        cases rx2 with
        | lit _ _ _ c o2 cap cc e fr vs g1 g2 g3 g4 g5 g6 =>
          have hr := run _ len cap p q hq e2 e3 h4 h5 g6
          by_cases hcp : cap = p
          · have hqp : q - p = 0 := by omega
            rw [if_pos hcp] at hr
            refine OpOk.pure hW hr ?_
            have h9 : (cs.drop (p * sz)).take ((q - p) * sz) = [] := by simp [hqp]
            rw [h9]
            exact VR.lit0 _ _ _ _ (by omega)
          · rw [if_neg hcp] at hr
            refine OpOk.pure hW hr ?_
            simp only [Option.map_some, addr_add]
            refine VR.lit _ _ _ c _ _ cc e fr ((vs.drop (p * sz)).take ((q - p) * sz)) g1 g2 (by simp [g3]) (fun i v hv => ?_) (fun i x v hx hv => ?_) (by omega)
            · rw [List.getElem?_take] at hv
              split at hv
              · rw [List.getElem?_drop] at hv
                rw [Nat.add_assoc]; exact g4 _ v hv
              · simp at hv
            · rw [List.getElem?_take] at hx hv
              split at hx
              · rename_i hi2
                rw [if_pos hi2] at hv
                rw [List.getElem?_drop] at hx hv
                exact g5 _ x v hx hv
              · simp at hx
        | lit0 _ _ cap ad g =>
          have hr := run _ len cap p q hq e2 e3 h4 h5 g
          refine OpOk.pure hW hr ?_
          simp only [List.drop_nil, List.take_nil]
          by_cases hcp : cap = p
          · rw [if_pos hcp]; exact VR.lit0 _ _ _ _ (by omega)
          · rw [if_neg hcp]; exact VR.lit0 _ _ _ _ (by omega)
      · simp at hs
    · simp at hs
  · rename_i b g off sz' len e1
    split at hs
    · rename_i p q e2 e3
      split at hs
      · rename_i hcond
        obtain ⟨h4, h5, h6, hcur⟩ := hcond
        subst h6
        simp at hs
        obtain ⟨rfl, rfl, rfl⟩ := hs
        rw [e1] at rx
        rw [← hh, ← hc]
        obtain ⟨q1, q2, q3⟩ := rx
        obtain ⟨q4, q5⟩ := q3 (by rw [hh]; exact hcur)
        rcases q5 with ⟨cap, q5, q6, cs, e, fr, q7, q8⟩ | ⟨q5, ad, q6⟩
        · have hr := run _ len cap p q q5 e2 e3 h4 h5 q6
          by_cases hcp : cap = p
          · have hqp : q - p = 0 := by omega
            rw [if_pos hcp, hqp] at hr
            have : cap - p = 0 := by omega
            rw [this] at hr
            refine OpOk.pure hW hr ⟨rfl, q2, fun _ => ⟨by omega, .inr ⟨hqp, _, rfl⟩⟩⟩
          · rw [if_neg hcp] at hr
            refine OpOk.pure hW hr ⟨rfl, q2, fun _ => ⟨by omega, .inl ⟨cap - p, ?_, by omega, cs, e, fr, q7, ?_⟩⟩⟩
            · simp only [Option.map_some, addr_add]
              congr 3
              omega
            · have : cap * sz' = p * sz' + (cap - p) * sz' := by rw [← Nat.add_mul]; congr 1; omega
              omega
        · subst q5
          have hr := run _ 0 0 p q q6 e2 e3 h4 h5 (Nat.le_refl _)
          have hp0 : p = 0 := by omega
          have hq0 : q = 0 := by omega
          subst hp0; subst hq0
          refine OpOk.pure hW hr ⟨rfl, q2, fun _ => ⟨by omega, .inr ⟨rfl, ad, by simp⟩⟩⟩
      · simp at hs
    · simp at hs
  · simp at hs

/-- s[0:0:0]. -/
theorem op_slc0 (hW : WR X E) (hT : TR X E s a) (hh : E.h = s.hp) (hc : E.ct = s.ct) {t sz : Nat} {x hi mx : Operand} {x' hi' mx' : Opd} {lo : Option Operand} {lo' : Option Opd} (ho : o.op = .slice t x lo (some hi) (some mx))
    (hx : okOpd x x' = true) (hlo : okOpt lo lo' = true) (hhi : okOpd hi hi' = true) (hmx : okOpd mx mx' = true) (ht : slT P t sz = true) (hs : step G s d (.slc sz x' lo' (some hi') (some mx')) = some (v, h', c')) : OpOk P X E o a.eval v h' c' := by
  have rx := ev_sound hT hx
  obtain ⟨e, it, hu, hit, hsz⟩ := slT_eq ht
  have run : ∀ ad len cap, a.eval x = .slice ad len cap → bound 0 s lo' = some 0 → (ev s hi').nat = some 0 → (ev s mx').nat = some 0 →
      (execOp a.eval o).run P E.w = .ok (.value (.slice ad 0 0)) E.w := fun ad len cap h1 h2 h3 h4 => by
    obtain ⟨k1, e1⟩ := nat_sound (ev_sound hT hhi) h3
    obtain ⟨k2, e2⟩ := nat_sound (ev_sound hT hmx) h4
    simp only [Int.natCast_zero] at e1 e2
    have b1 : ∀ (k : IntKind) (y : Nat) (c : BoundsCode), (Instr.sliceBound (.int k 0) y c).run P E.w = .ok 0 E.w := fun k y c => by
      have := run_sliceBound (P := P) E.w k 0 y c (by omega) (by omega); simpa using this
    have hb : (Instr.sliceBounds true len cap (lo.map a.eval) (some (a.eval hi)) (some (a.eval mx))).run P E.w = .ok (0, 0, 0) E.w := by
      rcases bound_sound hT hlo h2 with ⟨rfl, _⟩ | ⟨y, k, rfl, hy⟩
      · simp [Instr.sliceBounds, e1, e2, b1]
      · simp only [Int.natCast_zero] at hy
        simp [Instr.sliceBounds, e1, e2, b1, hy]
    simp [execOp, ho, h1, Instr.sliceAt, run_underlying hu, Instr.slice, hb, sizeOf, typeInfo, hit, hsz]
  simp only [step, bound] at hs
  split at hs
  · rename_i e1
    split at hs
    · rename_i e2 e3 e4
      simp at hs
      obtain ⟨rfl, rfl, rfl⟩ := hs
      rw [e1] at rx
      rw [← hh, ← hc]
      have rx2 : VR _ _ _ _ := rx
      generalize hq : a.eval x = q at rx2
      cases rx2
      exact OpOk.pure hW (run none 0 0 hq e2 e3 e4) VR.nilS
    · simp at hs
  · rename_i e1
    split at hs
    · rename_i e2 e3 e4
      simp at hs
      obtain ⟨rfl, rfl, rfl⟩ := hs
      rw [e1] at rx
      rw [← hh, ← hc]
      have rx2 : VR _ _ _ _ := rx
      generalize hq : a.eval x = q at rx2
      cases rx2 with
      | emp ad => exact OpOk.pure hW (run (some ad) 0 0 hq e2 e3 e4) (VR.emp ad)
    · simp at hs
  · rename_i tt cs len e1
    split at hs
    · rename_i e2 e3 e4
      simp at hs
      obtain ⟨rfl, rfl, rfl⟩ := hs
      rw [e1] at rx
      rw [← hh, ← hc]
      have rx2 : VR _ _ _ _ := rx
      generalize hq : a.eval x = qq at rx2
      cases rx2 with
      | lit _ _ _ c o2 cap cc e fr vs g1 g2 g3 g4 g5 g6 => exact OpOk.pure hW (run _ len cap hq e2 e3 e4) (VR.emp _)
      | lit0 _ _ cap ad g => exact OpOk.pure hW (run _ len cap hq e2 e3 e4) (VR.emp _)
    · simp at hs
  · rename_i b g off sz' len e1
    split at hs
    · rename_i e2 e3 e4
      split at hs
      · rename_i hcur
        simp at hs
        obtain ⟨rfl, rfl, rfl⟩ := hs
        rw [e1] at rx
        rw [← hh, ← hc]
        obtain ⟨q1, q2, q3⟩ := rx
        obtain ⟨q4, q5⟩ := q3 (by rw [hh]; exact hcur)
        rcases q5 with ⟨cap, q5, _⟩ | ⟨q5, ad, q6⟩
        · exact OpOk.pure hW (run _ len cap q5 e2 e3 e4) (VR.emp _)
        · subst q5; exact OpOk.pure hW (run _ 0 0 q6 e2 e3 e4) (VR.emp _)
      · simp at hs
    · simp at hs
  · simp at hs

/-- What is appended or copied. -/
theorem src_sound (hW : WR X E) {sz tx : Nat} {b : AC} {y : Value} {new : List AC} {n : Nat} (r : CC X E b y)
    (hkk : (∃ l, b = .r (.i (.str l))) → P.underlying tx = some .string) (hks : (¬ ∃ l, b = .r (.i (.str l))) → ∃ e', P.underlying tx = some (.slice e'))
    (e : slCells E.h sz b = some (new, n)) : ∃ vs, Src P sz tx y n vs E.w ∧ All2 (CC X E) new vs := by
  unfold slCells at e
  split at e
  · simp at e; obtain ⟨rfl, rfl⟩ := e
    obtain ⟨e', he'⟩ := hks (by rintro ⟨l, h⟩; cases h)
    cases r
    exact ⟨[], Src.ofNil E.w he' 0, .nil⟩
  · simp at e; obtain ⟨rfl, rfl⟩ := e
    obtain ⟨e', he'⟩ := hks (by rintro ⟨l, h⟩; cases h)
    cases r with
    | emp ad => exact ⟨[], Src.ofSlice E.w he' ad 0 0 [] (by simp) (by simp) (by simp), .nil⟩
  · rename_i tt cs m
    split at e
    · rename_i hlen
      simp at e; obtain ⟨rfl, rfl⟩ := e
      obtain ⟨e', he'⟩ := hks (by rintro ⟨l, h⟩; cases h)
      obtain ⟨ad, cap, vs, rfl, h1, h2, h3⟩ := lit_view (w := E.w) r
      have h4 := h2.map (S := CC X E) I fun _ _ r => r
      exact ⟨vs, Src.ofSlice E.w he' ad m cap vs (by rw [h2.length, hlen]) h3 (All2.one h4), h4⟩
    · simp at e
  · rename_i bb g off sz' m
    split at e
    · rename_i hsz
      subst hsz
      split at e
      · rename_i cs hrow
        split at e
        · rename_i hlen
          simp at e; obtain ⟨rfl, rfl⟩ := e
          obtain ⟨e', he'⟩ := hks (by rintro ⟨l, h⟩; cases h)
          obtain ⟨ad, cap, vs, rfl, h1, h2, h3, h4⟩ := sl_view hW r hrow hlen
          exact ⟨vs, Src.ofSlice E.w he' ad m cap vs h2 h4 (All2.one h3), h3⟩
        · simp at e
      · simp at e
    · simp at e
  · rename_i l
    split at e
    · rename_i hsz
      subst hsz
      simp at e; obtain ⟨rfl, rfl⟩ := e
      have he' := hkk ⟨l, rfl⟩
      cases r with
      | str _ z hz =>
        subst hz
        refine ⟨byteCells z, by rw [Array.length_toList]; exact Src.ofString E.w he' z, ?_⟩
        unfold byteCells
        generalize z.data.toList = l
        induction l with
        | nil => exact .nil
        | cons c l ih => exact .cons (VR.int _ _) ih
    · simp at e
  · simp at e

end
end Go.Abs
