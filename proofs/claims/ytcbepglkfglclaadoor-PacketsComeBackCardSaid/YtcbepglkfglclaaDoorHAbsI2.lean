/-
  The abstract machine beside Go's model: structs and arrays of plain cells that are compared; array literals.
-/
import Derived.Test.YtcbepglkfglclaaDoorHAbsI1
import Derived.ChangeKeysEq
namespace Go.Abs
open Go.RowKit

/-- The kind of a plain type's cell. -/
def eqLeaf (P : Program) (t : Nat) : Option Nat := match P.underlying t with
  | some (.int _) => some 0
  | some .string => some 1
  | some .bool => some 2
  | _ => none
def eqvF (P : Program) (rec : Nat → Option (List Nat)) : List Field → Nat → Option (List Nat)
  | [], _ => some []
  | f :: fs, off => match rec f.type with
    | some ks => if f.name ≠ "_" ∧ f.offset = off ∧ (tyOk P f.type ks.length true || tyOk P f.type ks.length false) = true then (eqvF P rec fs (off + ks.length)).map (ks ++ ·) else none
    | none => none
/-- The kinds of the cells of a type whose values may be compared cell by cell. -/
def eqvT (P : Program) : Nat → Nat → Option (List Nat)
  | 0, _ => none
  | d + 1, t => match P.underlying t with
    | some (.struct fs) => if P.stoodInHeld t then none else eqvF P (eqvT P d) fs.toList 0
    | some (.array n e) => match eqvT P d e with
      | some ks => if (tyOk P e ks.length true || tyOk P e ks.length false) = true then some (List.replicate n ks).flatten else none
      | none => none
    | _ => (eqLeaf P t).map fun k => [k]

theorem eqCellsK_len : ∀ {ks : List Nat} {xs ys : List AC} {b : Bool}, eqCellsK ks xs ys = some b → xs.length = ks.length ∧ ys.length = ks.length
  | [], [], [], _, _ => ⟨rfl, rfl⟩
  | k :: ks, x :: xs, y :: ys, b, h => by
    simp only [eqCellsK] at h
    split at h
    · rename_i _ _ _ h2
      have := eqCellsK_len h2
      simp [this.1, this.2]
    · simp at h
  | [], [], _ :: _, _, h => by simp [eqCellsK] at h
  | [], _ :: _, _, _, h => by simp [eqCellsK] at h
  | _ :: _, [], _, _, h => by simp [eqCellsK] at h
  | _ :: _, _ :: _, [], _, h => by simp [eqCellsK] at h

theorem eqCellsK_app : ∀ {k1 k2 : List Nat} {xs ys : List AC} {b : Bool}, eqCellsK (k1 ++ k2) xs ys = some b → ∃ b1 b2, eqCellsK k1 (xs.take k1.length) (ys.take k1.length) = some b1 ∧ eqCellsK k2 (xs.drop k1.length) (ys.drop k1.length) = some b2 ∧ b = (b1 && b2)
  | [], k2, xs, ys, b, h => ⟨true, b, by simp [eqCellsK], by simpa using h, by simp⟩
  | k :: k1, k2, x :: xs, y :: ys, b, h => by
    simp only [List.cons_append, eqCellsK] at h
    split at h
    · rename_i c c2 h1 h2
      obtain ⟨b1, b2, q1, q2, q3⟩ := eqCellsK_app h2
      refine ⟨c && b1, b2, ?_, by simpa using q2, ?_⟩
      · simp only [List.length_cons, List.take_succ_cons, eqCellsK, h1, q1]
      · have h := Option.some.inj h
        rw [← h, q3, Bool.and_assoc]
    · simp at h
  | _ :: _, _, [], _, _, h => by simp [eqCellsK] at h
  | _ :: _, _, _ :: _, [], _, h => by simp [eqCellsK] at h

section
variable {P : Program} {X : Cx} {E : Env} {s : St} {a : Act} {o : Oper} {G : Nat → List IV} {d : Nat} {v : AV} {h' : Heap} {c' : Nat}

theorem eqCellK_sound (w : World) {k t d : Nat} (hu : eqLeaf P t = some k) {x y : AC} {v u : Value} {b : Bool} (hx : CC X E x v) (hy : CC X E y u) (h : eqCellK k x y = some b) : (Op.equalIn (d + 1) t v u).run P w = .ok b w := by
  unfold eqCellK at h
  split at h
  · rename_i k1 a1 k2 b1
    split at h
    · rename_i hkk
      subst hkk
      have h := Option.some.inj h
      have hx2 : VR _ _ _ _ := hx
      have hy2 : VR _ _ _ _ := hy
      cases hx2; cases hy2
      unfold eqLeaf at hu
      split at hu <;> simp at hu
      rename_i kk hk
      rw [← h]
      exact run_equalIn_int w d t _ _ _ _ hk
    · simp at h
  · have h := Option.some.inj h
    have hx2 : VR _ _ _ _ := hx
    have hy2 : VR _ _ _ _ := hy
    cases hx2 with
    | str _ s1 e1 => cases hy2 with
      | str _ s2 e2 =>
        unfold eqLeaf at hu
        split at hu <;> simp at hu
        rename_i hk
        rw [← h, ← e1, ← e2, run_equalIn_string w d t _ _ hk, ByteArray.toList_eq, ByteArray.toList_eq]
  · have h := Option.some.inj h
    have hx2 : VR _ _ _ _ := hx
    have hy2 : VR _ _ _ _ := hy
    cases hx2; cases hy2
    unfold eqLeaf at hu
    split at hu <;> simp at hu
    rename_i hk
    rw [← h]
    exact run_equalIn_bool' w d t _ _ hk
  · simp at h

/-- Values of a type, cell by cell. -/
def EqvAt (P : Program) (X : Cx) (E : Env) (w : World) (d t : Nat) (ks : List Nat) : Prop := ∀ (agg : Bool), tyOk P t ks.length agg = true → ∀ (vx vy : List Value) (xs ys : List AC) (b : Bool), All2 (CC X E) xs vx → All2 (CC X E) ys vy → eqCellsK ks xs ys = some b →
  (Op.equalIn d t (valOf agg vx) (valOf agg vy)).run P w = .ok b w

theorem part_step {w : World} {d t off : Nat} {ks k2 : List Nat} (h : EqvAt P X E w d t ks) (hty : (tyOk P t ks.length true || tyOk P t ks.length false) = true) {vx vy : List Value} {xs ys : List AC} {b : Bool} (hx : All2 (CC X E) xs vx) (hy : All2 (CC X E) ys vy)
    (he : eqCellsK (ks ++ k2) (xs.drop off) (ys.drop off) = some b) :
    ∃ p q b1 b2, (part t vx.toArray off).run P w = .ok p w ∧ (part t vy.toArray off).run P w = .ok q w ∧ (Op.equalIn d t p q).run P w = .ok b1 w ∧ eqCellsK k2 (xs.drop (off + ks.length)) (ys.drop (off + ks.length)) = some b2 ∧ b = (b1 && b2) := by
  obtain ⟨b1, b2, q1, q2, q3⟩ := eqCellsK_app he
  obtain ⟨l1, l2⟩ := eqCellsK_len he
  simp only [List.length_drop, List.length_append] at l1 l2
  have lx := hx.length
  have ly := hy.length
  have key : ∀ agg, tyOk P t ks.length agg = true → ∃ p q b1 b2, (part t vx.toArray off).run P w = .ok p w ∧ (part t vy.toArray off).run P w = .ok q w ∧ (Op.equalIn d t p q).run P w = .ok b1 w ∧ eqCellsK k2 (xs.drop (off + ks.length)) (ys.drop (off + ks.length)) = some b2 ∧ b = (b1 && b2) := by
    intro agg ha
    have fx : ks.length = 0 ∨ off + ks.length ≤ vx.toArray.size := by
      rcases Nat.eq_zero_or_pos ks.length with h0 | h0
      · exact .inl h0
      · exact .inr (by rw [List.size_toArray]; omega)
    have fy : ks.length = 0 ∨ off + ks.length ≤ vy.toArray.size := by
      rcases Nat.eq_zero_or_pos ks.length with h0 | h0
      · exact .inl h0
      · exact .inr (by rw [List.size_toArray]; omega)
    refine ⟨_, _, b1, b2, run_part_cells ha w vx.toArray off fx, run_part_cells ha w vy.toArray off fy, ?_, by rw [← List.drop_drop, ← List.drop_drop]; exact q2, q3⟩
    exact h agg ha _ _ _ _ b1 ((hx.drop off).take ks.length) ((hy.drop off).take ks.length) q1
  rcases Bool.or_eq_true .. ▸ hty with h | h
  · exact key true h
  · exact key false h

theorem eqvF_sound {w : World} {d : Nat} {rec : Nat → Option (List Nat)} (hr : ∀ t ks, rec t = some ks → EqvAt P X E w d t ks) : ∀ (fs : List Field) (off : Nat) (ks : List Nat), eqvF P rec fs off = some ks → ∀ (vx vy : List Value) (xs ys : List AC) (b : Bool),
    All2 (CC X E) xs vx → All2 (CC X E) ys vy → eqCellsK ks (xs.drop off) (ys.drop off) = some b → (Op.eqFields d vx.toArray vy.toArray fs).run P w = .ok b w
  | [], off, ks, h, vx, vy, xs, ys, b, hx, hy, he => by
    simp [eqvF] at h
    subst h
    have : b = true := by
      obtain ⟨l1, l2⟩ := eqCellsK_len he
      have e1 := List.length_eq_zero_iff.1 l1
      have e2 := List.length_eq_zero_iff.1 l2
      rw [e1, e2] at he
      simpa [eqCellsK] using he.symm
    subst this
    simp [Op.eqFields]
  | f :: fs, off, ks, h, vx, vy, xs, ys, b, hx, hy, he => by
    simp only [eqvF] at h
    split at h
    · rename_i k1 hk1
      split at h
      · rename_i hc
        obtain ⟨h1, h2, h3⟩ := hc
        rw [Option.map_eq_some_iff] at h
        obtain ⟨k2, hk2, rfl⟩ := h
        obtain ⟨p, q, b1, b2, r1, r2, r3, r4, r5⟩ := part_step (hr f.type k1 hk1) h3 hx hy he
        have ih := eqvF_sound hr fs (off + k1.length) k2 hk2 vx vy xs ys b2 hx hy r4
        simp only [Op.eqFields, h1, ne_eq, not_false_eq_true, if_true, h2, Sem.run_bind, r1, r2, r3, Result.andThen_ok]
        cases b1
        · simp [r5]
        · simp only [Bool.not_true, Bool.false_eq_true, if_false, r5, Bool.true_and]
          exact ih
      · simp at h
    · simp at h

theorem eqItems_sound {w : World} {d e : Nat} {ks : List Nat} (hr : EqvAt P X E w d e ks) (hty : (tyOk P e ks.length true || tyOk P e ks.length false) = true) : ∀ (n i : Nat) (vx vy : List Value) (xs ys : List AC) (b : Bool),
    All2 (CC X E) xs vx → All2 (CC X E) ys vy → eqCellsK (List.replicate n ks).flatten (xs.drop (i * ks.length)) (ys.drop (i * ks.length)) = some b → (Op.eqItems d e ks.length vx.toArray vy.toArray (List.range' i n)).run P w = .ok b w
  | 0, i, vx, vy, xs, ys, b, hx, hy, he => by
    have : b = true := by
      simp only [List.replicate_zero, List.flatten_nil] at he
      obtain ⟨l1, l2⟩ := eqCellsK_len he
      have e1 := List.length_eq_zero_iff.1 l1
      have e2 := List.length_eq_zero_iff.1 l2
      rw [e1, e2] at he
      simpa [eqCellsK] using he.symm
    subst this
    simp [Op.eqItems]
  | n + 1, i, vx, vy, xs, ys, b, hx, hy, he => by
    rw [List.replicate_succ, List.flatten_cons] at he
    obtain ⟨p, q, b1, b2, r1, r2, r3, r4, r5⟩ := part_step hr hty hx hy he
    have e1 : i * ks.length + ks.length = (i + 1) * ks.length := by rw [Nat.add_mul]; omega
    rw [e1] at r4
    have ih := eqItems_sound hr hty n (i + 1) vx vy xs ys b2 hx hy r4
    rw [List.range'_succ]
    simp only [Op.eqItems, Sem.run_bind, r1, r2, r3, Result.andThen_ok]
    cases b1
    · simp [r5]
    · simp only [Bool.not_true, Bool.false_eq_true, if_false, r5, Bool.true_and]
      exact ih

theorem cellsOf_tyOk {e n : Nat} (h : (tyOk P e n true || tyOk P e n false) = true) : P.cellsOf e = n ∧ ∃ i, P.info? e = some i := by
  have key : ∀ agg, tyOk P e n agg = true → P.cellsOf e = n ∧ ∃ i, P.info? e = some i := by
    intro agg h
    unfold tyOk at h
    split at h
    · rename_i i d hi _
      simp only [Bool.and_eq_true, beq_iff_eq] at h
      exact ⟨by simp [Program.cellsOf, hi, h.1.1], i, hi⟩
    · simp at h
  rcases Bool.or_eq_true .. ▸ h with h | h
  · exact key _ h
  · exact key _ h

theorem eqv_sound (w : World) (d : Nat) : ∀ (m t : Nat) (ks : List Nat), eqvT P m t = some ks → EqvAt P X E w (d + m) t ks
  | 0, t, ks, h => by simp [eqvT] at h
  | m + 1, t, ks, h => by
    intro agg hty vx vy xs ys b hx hy he
    have hag : ∀ dd, P.underlying t = some dd → agg = aggD dd := fun dd hd => by
      unfold tyOk at hty
      split at hty
      · rename_i i d2 hi h2
        rw [hd] at h2
        have h2 := Option.some.inj h2
        subst h2
        simp only [Bool.and_eq_true, beq_iff_eq] at hty
        exact hty.1.2.symm
      · simp at hty
    simp only [eqvT] at h
    split at h
    · rename_i fs hu
      have := hag _ hu
      simp only [aggD] at this
      subst this
      split at h
      · simp at h
      · rename_i hst
        have hfs : P.fieldsOf t = fs := by simp [Program.fieldsOf, hu]
        simp only [valOf, if_true]
        rw [show d + (m + 1) = (d + m) + 1 from rfl, run_equalIn_struct w (d + m) t vx.toArray vy.toArray (by rw [hfs]; exact hu) (by simpa using hst), hfs]
        exact eqvF_sound (fun t ks h => eqv_sound w d m t ks h) fs.toList 0 ks h vx vy xs ys b hx hy (by simpa using he)
    · rename_i n e hu
      have := hag _ hu
      simp only [aggD] at this
      subst this
      split at h
      · rename_i k1 hk1
        split at h
        · rename_i h3
          have h := Option.some.inj h
          subst h
          obtain ⟨hc, inf, hi⟩ := cellsOf_tyOk h3
          simp only [valOf, if_true]
          rw [show d + (m + 1) = (d + m) + 1 from rfl, run_equalIn_array w (d + m) vx.toArray vy.toArray hu hi, hc, List.range_eq_range']
          exact eqItems_sound (eqv_sound w d m e k1 hk1) h3 n 0 vx vy xs ys b hx hy (by simpa using he)
        · simp at h
      · simp at h
    · rename_i hn1 hn2
      rw [Option.map_eq_some_iff] at h
      obtain ⟨k, hk, rfl⟩ := h
      obtain ⟨l1, l2⟩ := eqCellsK_len he
      obtain ⟨x, rfl⟩ := List.length_eq_one_iff.1 l1
      obtain ⟨y, rfl⟩ := List.length_eq_one_iff.1 l2
      cases hx with
      | cons hx hx2 => cases hx2; cases hy with
        | cons hy hy2 =>
          cases hy2
          have hf : agg = false := by
            unfold eqLeaf at hk
            split at hk <;> simp at hk <;> (rename_i hu; exact hag _ hu)
          subst hf
          simp only [valOf, List.headD_cons, Bool.false_eq_true, if_false]
          have he2 : eqCellK k x y = some b := by
            simp only [eqCellsK] at he
            split at he
            · rename_i c c2 h1 h2
              simp at h2
              subst h2
              simpa [h1] using he
            · simp at he
          exact eqCellK_sound w hk hx hy he2

def eqvOk (P : Program) (t : Nat) (ks : List Nat) : Bool := eqvT P 16 t == some ks && tyOk P t ks.length true && P.eqGuardType P.depth t == false

theorem op_eqv (hW : WR X E) (hT : TR X E s a) (hh : E.h = s.hp) (hc : E.ct = s.ct) {neg : Bool} {t u : Nat} {ks : List Nat} {x y : Operand} {x' y' : Opd} (ho : o.op = .binOp (if neg then .neq else .eql) t x y u)
    (hx : okOpd x x' = true) (hy : okOpd y y' = true) (hu : eqvOk P t ks = true) (hs : step G s d (.eqv neg ks x' y') = some (v, h', c')) : OpOk P X E o a.eval v h' c' := by
  have rx := ev_sound hT hx
  have ry := ev_sound hT hy
  simp only [eqvOk, Bool.and_eq_true, beq_iff_eq] at hu
  obtain ⟨⟨h1, h2⟩, h3⟩ := hu
  simp only [step] at hs
  split at hs
  · rename_i xs ys e1 e2
    obtain ⟨r, q1, rfl, rfl, rfl⟩ := okv_eq hs
    rw [Option.map_eq_some_iff] at q1
    obtain ⟨b, hb, rfl⟩ := q1
    rw [e1] at rx; rw [e2] at ry
    obtain ⟨vx, hvx, rx⟩ := rx
    obtain ⟨vy, hvy, ry⟩ := ry
    have key := eqv_sound (X := X) (E := E) E.w 9984 16 t ks h1 true h2 vx vy xs ys b rx ry hb
    simp only [valOf, if_true] at key
    rw [← hh, ← hc]
    refine OpOk.pure hW (x := .bool (if neg then !b else b)) ?_ (VR.bool _)
    cases neg <;> simp [execOp, ho, hvx, hvy, run_eqGuard_agg E.w _ t x y vx.toArray vy.toArray h3, run_eql_struct, run_neq_struct, key]
  · simp at hs

/-- The check of an array literal: the zero value, the places. -/
def buildAOk (P : Program) (t : Nat) (zero : List IV) (places : List (Nat × Nat)) : Bool :=
  match P.info? t, P.underlying t with
  | some it, some (.array n e) => match it.zero with
    | some z => (P.info? e).isSome && constIVs z.cells.toList zero && places == (List.range n).map fun i => (i * P.cellsOf e, P.cellsOf e)
    | none => false
  | _, _ => false

theorem fill_mono {f g : Nat → Option (Nat × Nat)} (h : ∀ i p, f i = some p → g i = some p) : ∀ (ps : List (Nat × Value)) (cc r : Array Value), Instr.fill f cc ps = some r → Instr.fill g cc ps = some r
  | [], cc, r, e => by simpa [Instr.fill] using e
  | (i, v) :: ps, cc, r, e => by
    simp only [Instr.fill] at e ⊢
    cases hf : f i with
    | none => simp [hf] at e
    | some p =>
      obtain ⟨off, n⟩ := p
      rw [h i (off, n) hf]
      rw [hf] at e
      simp only at e ⊢
      split at e
      · simp at e
      · rename_i hc
        rw [if_neg hc]
        exact fill_mono h ps _ r e

theorem op_buildA (hW : WR X E) (hT : TR X E s a) (hh : E.h = s.hp) (hc : E.ct = s.ct) {t : Nat} {zero : List IV} {places : List (Nat × Nat)} {parts : Array (Nat × Operand)} {parts' : List (Nat × Opd)}
    (ho : o.op = .build t parts) (hp : okParts parts.toList parts' = true) (hb : buildAOk P t zero places = true) (hs : step G s d (.build zero places parts') = some (v, h', c')) : OpOk P X E o a.eval v h' c' := by
  unfold buildAOk at hb
  split at hb
  · rename_i it n e hi hu
    split at hb
    · rename_i z hz
      simp only [Bool.and_eq_true, beq_iff_eq] at hb
      obtain ⟨⟨hb0, hb1⟩, rfl⟩ := hb
      simp only [step] at hs
      split at hs
      · rename_i ps hps
        obtain ⟨a1, h1, rfl, rfl, rfl⟩ := ok1_eq hs
        cases hfl : fillP ((List.range n).map fun i => (i * P.cellsOf e, P.cellsOf e)) (zero.map I) ps with
        | none => simp [hfl] at h1
        | some cs =>
          simp [hfl] at h1
          subst h1
          have hpr := parts_sound hT hp hps
          have hz2 : All2 (CC X E) (zero.map I) z.cells.toList := (constIVs_sound (p := okc X E) (h := E.w.heap) hb1).map I fun _ _ r => r
          obtain ⟨cc', q1, q2⟩ := fillP_sound _ ps _ _ _ cs hpr hz2 hfl
          rw [← hh, ← hc]
          refine OpOk.pure hW (x := .agg cc') ?_ ⟨cc'.toList, by simp, q2⟩
          cases hie : P.info? e with
          | none =>
            rw [hie] at hb0
            simp at hb0
          | some ie =>
            have hce : P.cellsOf e = ie.size := by simp [Program.cellsOf, hie]
            have hbt : P.built t (parts.map fun (i, x) => (i, a.eval x)).toList = some cc' := by
              unfold Program.built
              simp only [hi, hu, hz, hie]
              refine fill_mono (f := (((List.range n).map fun i => (i * P.cellsOf e, P.cellsOf e)).toArray[·]?)) (fun i p hp => ?_) _ _ _ ?_
              · simp only [List.getElem?_toArray, List.getElem?_map] at hp
                rw [Option.map_eq_some_iff] at hp
                obtain ⟨j, hj, rfl⟩ := hp
                have := List.getElem?_eq_some_iff.1 hj
                obtain ⟨_, hj⟩ := this
                simp at hj
                rw [hj, hce]
              · rw [← q1]
                congr 1
                simp
            simp [execOp, ho, run_build E.w t _ cc' hbt]
      · simp at hs
    · simp at hb
  · simp at hb
end
end Go.Abs
