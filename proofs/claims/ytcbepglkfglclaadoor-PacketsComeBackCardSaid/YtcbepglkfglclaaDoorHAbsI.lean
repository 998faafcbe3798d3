/-
  The abstract machine beside Go's model: one operation after the other (6): literals, make, len, tuples, closures, least and greatest.
-/
import Derived.Test.YtcbepglkfglclaaDoorHAbsH
namespace Go.Abs
open Go.RowKit

section
variable {P : Program} {X : Cx} {E : Env} {s : St} {a : Act} {o : Oper} {G : Nat → List IV} {d : Nat} {v : AV} {h' : Heap} {c' : Nat}

/- Parts laid over cells. -/
theorem foldl_zip (off : Nat) : ∀ (vs : List Value) (k : Nat) (cells : Array Value), off + k + vs.length ≤ cells.size →
    (vs.zipIdx k).foldl (fun cs (p : Value × Nat) => cs.setIfInBounds (off + p.2) p.1) cells = (cells.toList.take (off + k) ++ vs ++ cells.toList.drop (off + k + vs.length)).toArray
  | [], k, cells, h => by simp
  | v :: vs, k, cells, h => by
    simp only [List.zipIdx_cons, List.foldl_cons]
    simp only [List.length_cons] at h
    rw [foldl_zip off vs (k + 1) _ (by simp; omega)]
    apply Array.ext'
    simp only [Array.toList_setIfInBounds]
    apply List.ext_getElem?
    intro i
    have e1 : off + (k + 1) = off + k + 1 := by omega
    have e2 : off + k + 1 + vs.length = off + k + (vs.length + 1) := by omega
    rw [e1, e2]
    have hl : (cells.toList.set (off + k) v).take (off + k + 1) = cells.toList.take (off + k) ++ [v] := by
      rw [List.take_set, List.take_succ_eq_append_getElem (by simp; omega), List.set_append_right _ _ (by simp; omega)]
      simp
      rw [Nat.min_eq_left (by omega)]
      simp
    have hr : (cells.toList.set (off + k) v).drop (off + k + (vs.length + 1)) = cells.toList.drop (off + k + (vs.length + 1)) := by
      rw [List.drop_set_of_lt (by omega)]
    rw [hl, hr]
    simp

theorem fill_step {cells : Array Value} {off size : Nat} {v : Value} (h1 : v.cells.size = size) (h2 : off + size ≤ cells.size) :
    v.cells.zipIdx.foldl (fun cs (c, j) => cs.setIfInBounds (off + j) c) cells = (cells.toList.take off ++ v.cells.toList ++ cells.toList.drop (off + size)).toArray := by
  have h := foldl_zip off v.cells.toList 0 cells (by simp; omega)
  simp only [Nat.add_zero, Array.length_toList, h1] at h
  rw [← h, ← Array.foldl_toList]
  simp

theorem All2.lay {cs new : List AC} {vs ns : List Value} (h : All2 (CC X E) cs vs) (hn : All2 (CC X E) new ns) (off : Nat) : All2 (CC X E) (lay cs off new) (vs.take off ++ ns ++ vs.drop (off + ns.length)) := by
  unfold Abs.lay
  rw [hn.length]
  exact ((h.take off).append hn).append (h.drop _)

def PartR (X : Cx) (E : Env) (p : Nat × A1) (q : Nat × Value) : Prop := p.1 = q.1 ∧ A1R X E p.2 q.2

theorem fillP_sound (places : List (Nat × Nat)) : ∀ (ps : List (Nat × A1)) (qs : List (Nat × Value)) (cells : List AC) (cc : Array Value) (cs : List AC), All2 (PartR X E) ps qs → All2 (CC X E) cells cc.toList →
    fillP places cells ps = some cs → ∃ cc', Instr.fill (places.toArray[·]?) cc qs = some cc' ∧ All2 (CC X E) cs cc'.toList
  | [], _, cells, cc, cs, hp, hc, e => by
    cases hp
    simp [fillP] at e
    subst e
    exact ⟨cc, rfl, hc⟩
  | (i, v) :: ps, _, cells, cc, cs, hp, hc, e => by
    cases hp with
    | @cons _ q _ qs h1 h2 =>
      obtain ⟨i', v'⟩ := q
      obtain ⟨rfl, hv⟩ := h1
      simp only [fillP] at e
      split at e
      · simp at e
      · rename_i off n hpl
        split at e
        · rename_i hcond
          obtain ⟨e1, e2⟩ := hcond
          have hcs := cells_sound hv
          have hl1 := hcs.length
          have hl2 := hc.length
          simp at hl1 hl2
          have hsz : v'.cells.size = n := by omega
          have hfit : off + n ≤ cc.size := by omega
          obtain ⟨cc', q1, q2⟩ := fillP_sound places ps qs (lay cells off v.cells) (cc.toList.take off ++ v'.cells.toList ++ cc.toList.drop (off + n)).toArray cs h2
            (by
              have := hc.lay hcs off
              simp only [Array.length_toList, hsz] at this
              exact this) e
          refine ⟨cc', ?_, q2⟩
          have hpl' : places.toArray[i]? = some (off, n) := by simpa using hpl
          simp only [Instr.fill, hpl']
          rw [if_neg (by simp [hsz]; omega), fill_step hsz hfit]
          exact q1
        · simp at e

theorem fillS_sound (sz : Nat) : ∀ (ps : List (Nat × A1)) (qs : List (Nat × Value)) (cells : List AC) (cc : Array Value) (cs : List AC), All2 (PartR X E) ps qs → All2 (CC X E) cells cc.toList →
    fillS sz cells ps = some cs → ∃ cc', Instr.fill (fun i => some (i * sz, sz)) cc qs = some cc' ∧ All2 (CC X E) cs cc'.toList
  | [], _, cells, cc, cs, hp, hc, e => by
    cases hp
    simp [fillS] at e
    subst e
    exact ⟨cc, rfl, hc⟩
  | (i, v) :: ps, _, cells, cc, cs, hp, hc, e => by
    cases hp with
    | @cons _ q _ qs h1 h2 =>
      obtain ⟨i', v'⟩ := q
      obtain ⟨rfl, hv⟩ := h1
      simp only [fillS] at e
      split at e
      · rename_i hcond
        obtain ⟨e1, e2⟩ := hcond
        have hcs := cells_sound hv
        have hl1 := hcs.length
        have hl2 := hc.length
        simp at hl1 hl2
        have hsz : v'.cells.size = sz := by omega
        have hfit : i * sz + sz ≤ cc.size := by omega
        obtain ⟨cc', q1, q2⟩ := fillS_sound sz ps qs (lay cells (i * sz) v.cells) (cc.toList.take (i * sz) ++ v'.cells.toList ++ cc.toList.drop (i * sz + sz)).toArray cs h2
          (by
            have := hc.lay hcs (i * sz)
            simp only [Array.length_toList, hsz] at this
            exact this) e
        refine ⟨cc', ?_, q2⟩
        simp only [Instr.fill]
        rw [if_neg (by simp [hsz]; omega), fill_step hsz hfit]
        exact q1
      · simp at e

def okParts : List (Nat × Operand) → List (Nat × Opd) → Bool
  | [], [] => true
  | (i, x) :: l, (j, y) :: m => i == j && okOpd x y && okParts l m
  | _, _ => false

theorem parts_sound (hT : TR X E s a) : ∀ {l : List (Nat × Operand)} {m : List (Nat × Opd)} {ps : List (Nat × A1)}, okParts l m = true →
    traverse (fun p : Nat × Opd => (ev s p.2).one.map fun a => (p.1, a)) m = some ps → All2 (PartR X E) ps (l.map fun p => (p.1, a.eval p.2))
  | [], [], ps, _, e => by simp [traverse] at e; subst e; exact .nil
  | (i, x) :: l, (j, y) :: m, ps, h, e => by
    simp [okParts] at h
    obtain ⟨⟨rfl, h1⟩, h2⟩ := h
    simp only [traverse] at e
    split at e
    · simp at e
    · rename_i b hb
      split at e
      · simp at e
      · rename_i bs hbs
        simp at e
        subst e
        refine .cons ?_ (parts_sound hT h2 hbs)
        have r := ev_sound hT h1
        cases hq : ev s y with
        | v w =>
          rw [hq] at r
          simp [hq, AV.one] at hb
          subst hb
          exact ⟨rfl, r⟩
        | und => simp [hq, AV.one] at hb
        | skp => simp [hq, AV.one] at hb
        | tup l => simp [hq, AV.one] at hb
  | [], _ :: _, _, h, _ => by simp [okParts] at h
  | _ :: _, [], _, h, _ => by simp [okParts] at h

/-- The check of a struct or array literal: the zero value, the places. -/
def buildOk (P : Program) (t : Nat) (zero : List IV) (places : List (Nat × Nat)) : Bool :=
  match P.info? t, P.underlying t with
  | some it, some (.struct fields) => match it.zero, fields.toList.mapM (fun f => (P.info? f.type).map fun i => (f.offset, i.size)) with
    | some z, some pl => constIVs z.cells.toList zero && pl == places
    | _, _ => false
  | _, _ => false

theorem op_build (hW : WR X E) (hT : TR X E s a) (hh : E.h = s.hp) (hc : E.ct = s.ct) {t : Nat} {zero : List IV} {places : List (Nat × Nat)} {parts : Array (Nat × Operand)} {parts' : List (Nat × Opd)}
    (ho : o.op = .build t parts) (hp : okParts parts.toList parts' = true) (hb : buildOk P t zero places = true) (hs : step G s d (.build zero places parts') = some (v, h', c')) : OpOk P X E o a.eval v h' c' := by
  unfold buildOk at hb
  split at hb
  · rename_i it fields hi hu
    split at hb
    · rename_i z pl hz hpl
      simp at hb
      obtain ⟨hb1, rfl⟩ := hb
      simp only [step] at hs
      split at hs
      · rename_i ps hps
        obtain ⟨a1, h1, rfl, rfl, rfl⟩ := ok1_eq hs
        cases hfl : fillP pl (zero.map I) ps with
        | none => simp [hfl] at h1
        | some cs =>
          simp [hfl] at h1
          subst h1
          have hpr := parts_sound hT hp hps
          have hz2 : All2 (CC X E) (zero.map I) z.cells.toList := (constIVs_sound (p := okc X E) (h := E.w.heap) hb1).map I fun _ _ r => r
          obtain ⟨cc', q1, q2⟩ := fillP_sound pl ps _ _ _ cs hpr hz2 hfl
          rw [← hh, ← hc]
          refine OpOk.pure hW (x := .agg cc') ?_ ⟨cc'.toList, by simp, q2⟩
          have hbt : P.built t (parts.map fun (i, x) => (i, a.eval x)).toList = some cc' := by
            unfold Program.built
            simp only [hi, hu, hz, hpl]
            rw [← q1]
            congr 1
            simp
          simp [execOp, ho, run_build E.w t _ cc' hbt]
      · simp at hs
    · simp at hb
  · simp at hb

theorem rep_get (zero : List IV) : ∀ (n i : Nat), i < n * zero.length → (repC n zero)[i]? = (zero[i % zero.length]?).map I
  | 0, i, h => by simp at h
  | n + 1, i, h => by
    simp only [repC]
    by_cases hi : i < zero.length
    · rw [List.getElem?_append_left (by simpa using hi), List.getElem?_map, Nat.mod_eq_of_lt hi]
    · rw [List.getElem?_append_right (by simp; omega)]
      simp only [List.length_map]
      rw [rep_get zero n (i - zero.length) (by rw [Nat.add_mul] at h; omega)]
      congr 2
      conv => rhs; rw [show i = i - zero.length + zero.length from by omega]
      rw [Nat.add_mod_right]

theorem rep_length (zero : List IV) : ∀ n, (repC n zero).length = n * zero.length
  | 0 => by simp [repC]
  | n + 1 => by simp [repC, rep_length zero n, Nat.add_mul]; omega

theorem rep_sound {z : Array Value} {zero : List IV} (h : All2 (VR (okc X E) E.w.heap) zero z.toList) (n : Nat) : All2 (CC X E) (repC n zero) ((Array.range (n * zero.length)).map (z[· % z.size]!)).toList := by
  have hl := h.length
  simp at hl
  refine All2.of_get (by simp [rep_length]) fun i x v hx hv => ?_
  have hi : i < n * zero.length := by
    have := (List.getElem?_eq_some_iff.1 hx).1
    rwa [rep_length] at this
  rw [rep_get zero n i hi] at hx
  have hpos : 0 < zero.length := by
    rcases Nat.eq_zero_or_pos zero.length with h0 | h0
    · simp [h0] at hi
    · exact h0
  have hm : i % zero.length < zero.length := Nat.mod_lt _ hpos
  rw [List.getElem?_eq_getElem hm] at hx
  simp at hx
  subst hx
  simp [hi] at hv
  obtain ⟨b, hb, hr⟩ := h.get (i % zero.length) _ (List.getElem?_eq_getElem hm)
  have : b = v := by
    rw [← hv, hl]
    rw [getElem!_pos z (i % zero.length) (by omega)]
    have h2 := (List.getElem?_eq_some_iff.1 hb).2
    rw [← h2]
    simp
  subst this
  exact hr

def bslT (P : Program) (t sz : Nat) (zero : List IV) : Bool :=
  match P.underlying t with
  | some (.slice e) => match P.info? e with
    | some i => i.size == sz && (match i.zero with | some z => constIVs z.cells.toList zero | none => false)
    | none => false
  | _ => false

theorem bslT_eq {t sz : Nat} {zero : List IV} (h : bslT P t sz zero = true) : ∃ e i z, P.underlying t = some (.slice e) ∧ P.info? e = some i ∧ i.size = sz ∧ i.zero = some z ∧ ∀ p hh, All2 (VR p hh) zero z.cells.toList := by
  unfold bslT at h
  split at h
  · rename_i e hu
    split at h
    · rename_i i hi
      simp at h
      obtain ⟨h1, h3⟩ := h
      split at h3
      · rename_i z hz
        exact ⟨e, i, z, hu, hi, h1, hz, fun p hh => constIVs_sound h3⟩
      · simp at h3
    · simp at h
  · simp at h

theorem rd0 {cs : List AC} {vs : List IV} {ws : List Value} (h : All2 (CC X E) cs ws) (e : traverse (rd (fun _ => false) E.h 0 0) cs = some vs) : All2 (VR (okc X E) E.w.heap) vs ws := by
  refine h.of_traverse (fun x w iv r e => ?_) e
  cases x with
  | r a => cases a with
    | i y => simp [rd] at e; subst e; exact r
    | _ => simp [rd] at e
  | clo f caps => simp [rd] at e

/-- A NEW BLOCK THAT NOBODY WRITES TO. -/
theorem lit_new (hW : WR X E) {vs : List IV} {ws : List Value} (r : All2 (VR (okc X E) E.w.heap) vs ws) (e : TypeId) (len cap : Nat) (hcap : len ≤ cap) (w : World) (rest : List Value) (fr : Nat × Nat)
    (hw : w.heap = E.w.heap.push (.cells (ws ++ rest).toArray e fr)) (ho : w.os = E.w.os) (ht : w.tape = E.w.tape) (hu : w.output = E.w.output) :
    ∃ E', E'.w = w ∧ E'.h = E.h ∧ E'.ct = E.ct ∧ WR X E' ∧ Ext X E E' ∧ E.w.heap.size ≤ E'.w.heap.size ∧ VR (okc X E') E'.w.heap (.lit 0 vs len) (.slice (some ⟨E.w.heap.size, 0, none⟩) len cap) := by
  let E' : Env := { h := E.h, m := E.m, ct := E.ct, w }
  have hS : Same E E' := ⟨rfl, rfl, rfl, by simp [E', hw], fun k hk => by simp only [E']; rw [hw, Array.getElem?_push, if_neg (by omega)], ho, ht, hu⟩
  refine ⟨E', rfl, rfl, rfl, hS.wr hW, hS.ext, hS.size, ?_⟩
  refine VR.lit 0 vs len E.w.heap.size 0 cap (ws ++ rest).toArray e fr ws (.inl ⟨hW.size, ?_⟩) (by simp only [E']; rw [hw, Array.getElem?_push]; simp) r.length (fun i v hv => ?_) (fun i x v hx hv => ?_) hcap
  · rintro (⟨b, h1, h2⟩ | hH)
    · obtain ⟨y, hy⟩ := Option.isSome_iff_exists.1 h1
      have := hW.lt hy
      simp only [E'] at h2
      omega
    · obtain ⟨o, ho⟩ := Option.isSome_iff_exists.1 hH
      have := (Array.getElem?_eq_some_iff.1 (hW.hid _ o ho).1).1
      omega
  · have : i < ws.length := (List.getElem?_eq_some_iff.1 hv).1
    simp [List.getElem?_append_left this, hv]
  · obtain ⟨b, hb, hr⟩ := r.get i x hx
    rw [hv] at hb
    simp at hb
    subst hb
    exact hr.mono hS.ext.ok

theorem op_bsl (hW : WR X E) (hT : TR X E s a) (hh : E.h = s.hp) (hc : E.ct = s.ct) {t sz len : Nat} {zero : List IV} {own : Bool} {parts : Array (Nat × Operand)} {parts' : List (Nat × Opd)}
    (ho : o.op = .buildSlice t len parts) (hp : okParts parts.toList parts' = true) (hb : bslT P t sz zero = true) (hs : step G s d (.bsl sz len zero parts' own) = some (v, h', c')) : OpOk P X E o a.eval v h' c' := by
  obtain ⟨e, i, z, hu, hi, hsz, hz, rz⟩ := bslT_eq hb
  simp only [step] at hs
  split at hs
  · rename_i ps hps
    split at hs
    · rename_i hcond
      obtain ⟨hmax, hzl⟩ := hcond
      split at hs
      · rename_i cs hcs
        have hpr := parts_sound hT hp hps
        have hz2 := rep_sound (X := X) (E := E) (rz (okc X E) E.w.heap) len
        rw [hzl] at hz2
        obtain ⟨cc', q1, q2⟩ := fillS_sound sz ps _ _ _ cs hpr hz2 hcs
        have hqs : (parts.map fun (i, x) => (i, a.eval x)).toList = parts.toList.map fun p => (p.1, a.eval p.2) := by simp
        have hrun : (execOp a.eval o).run P E.w = .ok (.value (.slice (some ⟨E.w.heap.size, 0, none⟩) len len)) (E.w.alloc (.cells cc' e)) := by
          have hz0 : len * sz = 0 ∨ len * sz ≠ 0 := by omega
          rcases hz0 with hz0 | hz0
          · have : (Array.range 0 : Array Nat) = #[] := rfl
            rw [hz0, this] at q1
            simp only [Array.map_empty] at q1
            simp [execOp, ho, Instr.buildSlice, run_underlying hu, sizeOf, typeInfo, hi, hsz, hz0, this, q1, newRow]
          · have hm : ¬ (16777216 < len * sz) := by omega
            simp [execOp, ho, Instr.buildSlice, run_underlying hu, sizeOf, typeInfo, hi, hsz, hz0, zeroValue, hz, hm, q1, newRow]
        split at hs
        · simp at hs
          obtain ⟨rfl, rfl, rfl⟩ := hs
          obtain ⟨hP, hB⟩ := put_new hW d e (0, 0) [] q2 (E.w.alloc (.cells cc' e)) (by simp only [List.append_nil, Array.toArray_toList]; rfl) (.inr (Nat.le_refl _)) rfl rfl rfl
          rw [← hh, ← hc]
          refine OpOk.put hW hP (x := .slice (some ⟨E.w.heap.size, 0, none⟩) len len) hrun hB ⟨rfl, Nat.lt_succ_self _, fun _ => ?_⟩
          simp only [Env.new, if_true, Nat.sub_zero]
          refine ⟨Nat.le_refl _, .inl ⟨len, rfl, Nat.le_refl _, cc', e, (0, 0), ?_, ?_⟩⟩
          · show (E.w.heap.push _)[_]? = _
            simp
          · have h1 := q2.length
            have : cs.length = len * sz := by
              have h2 : ∀ (ps : List (Nat × A1)) (c0 c1 : List AC), fillS sz c0 ps = some c1 → c1.length = c0.length := by
                intro ps
                induction ps with
                | nil => intro c0 c1 h; simp [fillS] at h; rw [h]
                | cons p ps ih =>
                  intro c0 c1 h
                  obtain ⟨i, v⟩ := p
                  simp only [fillS] at h
                  split at h
                  · rename_i hc2
                    rw [ih _ _ h, lay_length (by omega)]
                  · simp at h
              rw [h2 _ _ _ hcs, rep_length, hzl]
            simp at h1
            omega
        · split at hs
          · rename_i vs hvs
            simp at hs
            obtain ⟨rfl, rfl, rfl⟩ := hs
            rw [← hh] at hvs
            have r := rd0 q2 hvs
            obtain ⟨E', f1, f2, f3, f4, f5, f6, f7⟩ := lit_new hW r e len len (Nat.le_refl _) (E.w.alloc (.cells cc' e)) [] (0, 0) (by simp only [List.append_nil, Array.toArray_toList]; rfl) rfl rfl rfl
            exact ⟨E', _, by rw [f1]; exact hrun, by rw [f2, hh], by rw [f3, hc], f4, f5, f6, .inl ⟨_, rfl, f7⟩⟩
          · simp at hs
      · simp at hs
    · simp at hs
  · simp at hs

def mkslT (P : Program) (t sz bytes : Nat) (zero : List IV) : Bool :=
  match P.underlying t with
  | some (.slice e) => match P.info? e with
    | some i => i.size == sz && i.bytes == bytes && (match i.zero with | some z => constIVs z.cells.toList zero | none => false)
    | none => false
  | _ => false

theorem mkslT_eq {t sz bytes : Nat} {zero : List IV} (h : mkslT P t sz bytes zero = true) : ∃ e i z, P.underlying t = some (.slice e) ∧ P.info? e = some i ∧ i.size = sz ∧ i.bytes = bytes ∧ i.zero = some z ∧ ∀ p hh, All2 (VR p hh) zero z.cells.toList := by
  unfold mkslT at h
  split at h
  · rename_i e hu
    split at h
    · rename_i i hi
      simp at h
      obtain ⟨⟨h1, h2⟩, h3⟩ := h
      split at h3
      · rename_i z hz
        exact ⟨e, i, z, hu, hi, h1, h2, hz, fun p hh => constIVs_sound h3⟩
      · simp at h3
    · simp at h
  · simp at h

theorem op_mksl (hW : WR X E) (hT : TR X E s a) (hh : E.h = s.hp) (hc : E.ct = s.ct) {t sz bytes : Nat} {zero : List IV} {x y : Operand} {x' y' : Opd}
    (ho : o.op = .makeSlice t x y) (hx : okOpd x x' = true) (hy : okOpd y y' = true) (hb : mkslT P t sz bytes zero = true) (hs : step G s d (.mksl sz bytes zero x' y') = some (v, h', c')) : OpOk P X E o a.eval v h' c' := by
  obtain ⟨e, i, z, hu, hi, hsz, hby, hz, rz⟩ := mkslT_eq hb
  simp only [step] at hs
  split at hs
  · rename_i n c e1 e2
    obtain ⟨k1, f1⟩ := nat_sound (ev_sound hT hx) e1
    obtain ⟨k2, f2⟩ := nat_sound (ev_sound hT hy) e2
    split at hs
    · rename_i hcond
      obtain ⟨rfl, hb1, hb2, hzl⟩ := hcond
      simp at hs
      obtain ⟨rfl, rfl, rfl⟩ := hs
      have hb' : (i.bytes : Int) * (n : Int) ≤ 281474976710656 := by
        have h : ((i.bytes * n : Nat) : Int) ≤ 281474976710656 := by rw [hby]; omega
        rwa [Int.natCast_mul] at h
      have hr := run_make (P := P) E.w t e i z hu hi hz k1 k2 n n (by omega) (Int.le_refl _) hb' (by omega)
      simp only [Int.toNat_natCast, hsz] at hr
      have hz2 := rep_sound (X := X) (E := E) (rz (okc X E) E.w.heap) n
      rw [hzl] at hz2
      obtain ⟨hP, hB⟩ := put_new hW d e (0, 0) [] hz2 (E.w.alloc (.cells (madeCells z.cells (n * sz)) e)) (by simp only [List.append_nil, Array.toArray_toList]; rfl) (.inr (Nat.le_refl _)) rfl rfl rfl
      rw [← hh, ← hc]
      refine OpOk.put hW hP (x := .slice (some ⟨E.w.heap.size, 0, none⟩) n n) (by simp [execOp, ho, f1, f2, hr]; rfl) hB ⟨rfl, Nat.lt_succ_self _, fun _ => ?_⟩
      simp only [Env.new, if_true, Nat.sub_zero]
      refine ⟨Nat.le_refl _, .inl ⟨n, rfl, Nat.le_refl _, madeCells z.cells (n * sz), e, (0, 0), ?_, ?_⟩⟩
      · show (E.w.heap.push _)[_]? = _
        simp
      · rw [size_madeCells]; simp
    · simp at hs
  · simp at hs

/-- Zeros that are appended. -/
def appZT (P : Program) (t tx sz bytes : Nat) (zero : List IV) : Bool := mkslT P t sz bytes zero && (match P.underlying tx with | some (.int _) => true | _ => false)

theorem wrap64 {n : Int} (h1 : -9223372036854775808 ≤ n) (h2 : n ≤ 9223372036854775807) : IntKind.i64.wrap n = n := by
  simp [IntKind.wrap, IntKind.signed, IntKind.bits]
  omega
theorem SrcA.zeros {t tx e : TypeId} {i : TypeInfo} {z : Value} {k : IntKind} {w : World} (hu : P.underlying t = some (.slice e)) (hi : P.info? e = some i) (hz : i.zero = some z) (hk : P.underlying tx = some (.int k)) (hzs : z.cells.size = i.size)
    (n : Nat) (h1 : n * i.bytes ≤ 17592186044416) (h2 : n ≤ 17592186044416) (hone : ∀ u ∈ (Builtin.zeroCells z.cells n).toList, u.oneCell' = true) : SrcA P t tx e i z (.int .i64 n) n (Builtin.zeroCells z.cells n).toList w := by
  have hlen : (Builtin.zeroCells z.cells n).toList.length = n * i.size := by simp [Builtin.zeroCells, hzs]
  have hw : IntKind.i64.wrap (n : Int) = n := wrap64 (by omega) (by omega)
  have hb : ¬ ((n : Int) * (i.bytes : Int) > 2 ^ 48) := by
    have : ((n * i.bytes : Nat) : Int) ≤ 17592186044416 := by omega
    rw [Int.natCast_mul] at this
    omega
  have h0 : ¬ ((n : Int) < 0) := by omega
  have hz0 : n * i.size = 0 → Builtin.zeroCells z.cells n = #[] := fun h => by
    apply Array.eq_empty_of_size_eq_zero
    simp [Builtin.zeroCells, hzs, h]
  refine ⟨hlen, fun b off sLen sCap ty hr hb1 hc hf => ?_, fun base sLen sCap olds ty ho hr hb1 hb2 => ?_, fun base ty hn hv => ?_⟩
  · have hst := run_storeCells_cells (P := P) b (off + sLen * i.size) (Builtin.zeroCells z.cells n).toList 0 w (by simpa using hc) (by simpa using hf) hone
    simp only [Nat.add_zero] at hst
    by_cases hn : n * i.size = 0
    · have e0 := hz0 hn
      rw [e0] at hst ⊢
      simp only [show ((2 : Int) ^ 48) = 281474976710656 from rfl] at hb
      simp [Builtin.append_, run_underlying hu, run_underlying hk, sizeOf, typeInfo, hi, asInt, asIntOf, hw, hb, h0, hr, hn, Addr.add_lit, hst]
    · simp only [show ((2 : Int) ^ 48) = 281474976710656 from rfl] at hb
      simp [Builtin.append_, run_underlying hu, run_underlying hk, sizeOf, typeInfo, zeroValue, hi, hz, asInt, asIntOf, hw, hb, h0, hr, hn, Addr.add_lit, hst]
  · have hr' : ¬ (sLen + n ≤ sCap) := by omega
    have h63' : ¬ (9223372036854775807 < ((sLen : Int) + (n : Int))) := by omega
    have h48' : ¬ (281474976710656 < Builtin.nextslicecap (sLen + n) sCap * i.bytes) := by have := fits hr hb1; omega
    simp only [show ((2 : Int) ^ 48) = 281474976710656 from rfl] at hb
    by_cases hn : n * i.size = 0
    · have e0 := hz0 hn
      rw [e0]
      simp [Builtin.append_, run_underlying hu, run_underlying hk, sizeOf, typeInfo, zeroValue, hi, hz, asInt, asIntOf, hw, hb, h0, hr', h63', h48', hn, Question.forced, ho, newRow, grownCap]
    · simp [Builtin.append_, run_underlying hu, run_underlying hk, sizeOf, typeInfo, zeroValue, hi, hz, asInt, asIntOf, hw, hb, h0, hr', h63', h48', hn, Question.forced, ho, newRow, grownCap]
      congr 2
      apply Array.ext'
      simp [List.append_assoc]
  · subst hn
    have hw0 : IntKind.i64.wrap 0 = 0 := rfl
    cases base <;> simp [Builtin.append_, run_underlying hu, run_underlying hk, sizeOf, typeInfo, hi, asInt, asIntOf, hw0, storeCells]

theorem op_appZ (hW : WR X E) (hT : TR X E s a) (hh : E.h = s.hp) (hc : E.ct = s.ct) {t tx sz bytes : Nat} {zero : List IV} {x y : Operand} {x' y' : Opd}
    (ho : o.op = .call { callee := .builtin .append, args := #[x, y], argTypes := #[t, tx] }) (hx : okOpd x x' = true) (hy : okOpd y y' = true) (hb : appZT P t tx sz bytes zero = true)
    (hs : step G s d (.appZ sz bytes zero x' y') = some (v, h', c')) : OpOk P X E o a.eval v h' c' := by
  unfold appZT at hb
  rw [Bool.and_eq_true] at hb
  obtain ⟨e, i, z, hu, hi, hsz, hby, hz, rz⟩ := mkslT_eq hb.1
  obtain ⟨k, hk⟩ : ∃ k, P.underlying tx = some (.int k) := by
    have := hb.2
    split at this
    · exact ⟨_, by assumption⟩
    · simp at this
  have rx := ev_sound hT hx
  have ry := ev_sound hT hy
  simp only [step] at hs
  split at hs
  · rename_i ca m e1 e2
    rw [e1] at rx; rw [e2] at ry
    split at hs
    · rename_i hcond
      obtain ⟨h0, hzl⟩ := hcond
      obtain ⟨n, rfl⟩ := Int.eq_ofNat_of_zero_le h0
      have ry : VR _ _ (.int .i64 (n : Int)) _ := ry
      have ey : a.eval y = .int .i64 n := by generalize a.eval y = q at ry; cases ry; rfl
      have hrz := rz (okc X E) E.w.heap
      have hlz : zero.length = z.cells.size := by have := hrz.length; simpa using this.symm
      have hzs : z.cells.size = i.size := by omega
      have hz2 : All2 (CC X E) (repC n zero) (Builtin.zeroCells z.cells n).toList := by
        have := rep_sound (X := X) (E := E) hrz n
        rw [hlz] at this
        exact this
      have hone : ∀ u ∈ (Builtin.zeroCells z.cells n).toList, u.oneCell' = true := fun u hu' => by
        obtain ⟨j, hj⟩ := List.getElem?_of_mem hu'
        have hlt : j < (repC n zero).length := by
          rw [← hz2.length]; exact (List.getElem?_eq_some_iff.1 hj).1
        obtain ⟨v, hv, hr⟩ := hz2.get j _ (List.getElem?_eq_getElem hlt)
        rw [hj] at hv
        have := Option.some.inj hv
        subst this
        exact CC.one hr
      subst hsz; subst hby
      simp only [Int.toNat_natCast] at hs
      have hfit : n * i.bytes ≤ 17592186044416 ∧ n ≤ 17592186044416 := by
        unfold appTo at hs
        split at hs
        · split at hs
          · rename_i hn; subst hn; exact ⟨by simp, by simp⟩
          · split at hs
            · assumption
            · simp at hs
        · split at hs
          · rename_i hn; subst hn; exact ⟨by simp, by simp⟩
          · split at hs
            · assumption
            · simp at hs
        · split at hs
          · split at hs
            · rename_i hcc
              obtain ⟨_, _, g1, g2⟩ := hcc
              rw [Nat.add_mul] at g1
              exact ⟨by omega, by omega⟩
            · simp at hs
          · simp at hs
        · simp at hs
      have hsrc := SrcA.zeros (P := P) (w := E.w) hu hi hz hk hzs n hfit.1 hfit.2 hone
      rw [← ey] at hsrc
      exact appTo_sound hW hh hc ho hu hi hz hzs rx hsrc hz2 hs
    · simp at hs
  · simp at hs

/-- The kind of what len is asked of: strings (0), slices (1), maps (2). -/
def lenT (P : Program) (t ty : Nat) : Bool :=
  match P.underlying t, ty with
  | some .string, 0 | some (.slice _), 1 | some (.map _ _), 2 => true
  | _, _ => false

theorem op_len (hW : WR X E) (hT : TR X E s a) (hh : E.h = s.hp) (hc : E.ct = s.ct) {t ty : Nat} {x : Operand} {x' : Opd} (ho : o.op = .call { callee := .builtin .len, args := #[x], argTypes := #[t] })
    (hx : okOpd x x' = true) (ht : lenT P t ty = true) (hs : step G s d (.len ty x') = some (v, h', c')) : OpOk P X E o a.eval v h' c' := by
  have rx := ev_sound hT hx
  have run : ∀ z w', (Builtin.len_ #[t] o.type #[a.eval x]).run P E.w = .ok z w' → (execOp a.eval o).run P E.w = .ok (.value z) w' := fun z w' h => by
    simp [execOp, ho, resolve, invoke, builtin, h]
  have fin : ∀ n : Nat, okv s (some (.int .i64 n)) = some (v, h', c') → (Builtin.len_ #[t] o.type #[a.eval x]).run P E.w = .ok (.int .i64 n) E.w → OpOk P X E o a.eval v h' c' := fun n h1 h2 => by
    obtain ⟨r, h3, rfl, rfl, rfl⟩ := okv_eq h1
    simp at h3; subst h3
    rw [← hh, ← hc]
    exact OpOk.pure hW (run _ _ h2) (VR.int _ _)
  simp only [step] at hs
  split at hs
  · rename_i l e1
    rw [e1] at rx
    have hu : P.underlying t = some .string := by unfold lenT at ht; split at ht <;> simp_all
    have rx2 : VR _ _ _ _ := rx
    generalize hq : a.eval x = q at rx2
    cases rx2 with
    | str _ z hz => subst hz; exact fin _ hs (by rw [hq, Array.length_toList]; simp [Builtin.len_, run_underlying hu, goInt])
  · rename_i e1
    rw [e1] at rx
    obtain ⟨e, hu⟩ : ∃ e, P.underlying t = some (.slice e) := by unfold lenT at ht; split at ht <;> simp_all
    have rx2 : VR _ _ _ _ := rx
    generalize hq : a.eval x = q at rx2
    cases rx2
    exact fin 0 hs (by rw [hq]; simp [Builtin.len_, run_underlying hu, goInt])
  · rename_i e1
    rw [e1] at rx
    obtain ⟨e, hu⟩ : ∃ e, P.underlying t = some (.slice e) := by unfold lenT at ht; split at ht <;> simp_all
    have rx2 : VR _ _ _ _ := rx
    generalize hq : a.eval x = q at rx2
    cases rx2
    exact fin 0 hs (by rw [hq]; simp [Builtin.len_, run_underlying hu, goInt])
  · rename_i tt cs n e1
    rw [e1] at rx
    obtain ⟨e, hu⟩ : ∃ e, P.underlying t = some (.slice e) := by unfold lenT at ht; split at ht <;> simp_all
    have rx2 : VR _ _ _ _ := rx
    generalize hq : a.eval x = q at rx2
    cases rx2 <;> exact fin n hs (by rw [hq]; simp [Builtin.len_, run_underlying hu, goInt])
  · rename_i b g off sz n e1
    split at hs
    · rename_i hcur
      rw [e1] at rx
      obtain ⟨e, hu⟩ : ∃ e, P.underlying t = some (.slice e) := by unfold lenT at ht; split at ht <;> simp_all
      obtain ⟨q1, q2, q3⟩ := rx
      obtain ⟨q4, q5⟩ := q3 (by rw [hh]; exact hcur)
      rcases q5 with ⟨cap, q5, _⟩ | ⟨rfl, ad, q5⟩ <;> exact fin _ hs (by rw [q5]; simp [Builtin.len_, run_underlying hu, goInt])
    · simp at hs
  · rename_i e1
    rw [e1] at rx
    obtain ⟨e, e', hu⟩ : ∃ e e', P.underlying t = some (.map e e') := by unfold lenT at ht; split at ht <;> simp_all
    have rx2 : VR _ _ _ _ := rx
    generalize hq : a.eval x = q at rx2
    cases rx2
    exact fin 0 hs (by rw [hq]; simp [Builtin.len_, run_underlying hu, goInt])
  · rename_i b g e1
    split at hs
    · rename_i es k hm
      rw [e1] at rx
      obtain ⟨e, e', hu⟩ : ∃ e e', P.underlying t = some (.map e e') := by unfold lenT at ht; split at ht <;> simp_all
      rw [← hh] at hm
      obtain ⟨hget, hcur⟩ := Heap.mapAt_eq hm
      obtain ⟨q1, q2, q3⟩ := rx
      have q3 := q3 hcur
      obtain ⟨⟨ces, r1, r2⟩, _, _⟩ := hW.blk b _ hget
      have hl := r2.length
      simp at hl
      exact fin _ hs (by rw [q3]; simp [Builtin.len_, run_underlying hu, goInt, MapKept.run_getObj_map r1, hl])
    · simp at hs
  · simp at hs

theorem op_ext (hW : WR X E) (hT : TR X E s a) (hh : E.h = s.hp) (hc : E.ct = s.ct) {n : Nat} {x : Operand} {x' : Opd} (ho : o.op = .extract x n)
    (hx : okOpd x x' = true) (hs : step G s d (.ext x' n) = some (v, h', c')) : OpOk P X E o a.eval v h' c' := by
  have rx := ev_sound hT hx
  simp only [step] at hs
  split at hs
  · rename_i l e1
    obtain ⟨r, h1, rfl, rfl, rfl⟩ := ok1_eq hs
    rw [e1] at rx
    obtain ⟨vs, hq, hr⟩ := rx
    obtain ⟨w, hw, hrw⟩ := hr.get n r h1
    rw [← hh, ← hc]
    exact OpOk.pure hW (x := w) (by simp [execOp, ho, hq, Instr.extract, hw]) hrw
  · simp at hs

theorem capOf_sound {x : AC} {r : AR} {w : Value} (h : CC X E x w) (e : capOf x = some r) : RR X E r w := by
  cases x with
  | r y => simp [capOf] at e; subst e; exact h
  | clo f caps =>
    simp only [capOf] at e
    cases ht : traverse inlR caps with
    | none => rw [ht] at e; simp at e
    | some vs =>
      rw [ht] at e
      simp at e; subst e
      obtain ⟨ws, rfl, hr⟩ := h
      have h2 : All2 (VR (okc X E) E.w.heap) vs ws := hr.of_traverse (fun a b c r e => by cases a <;> simp [inlR] at e; subst e; exact r) ht
      exact VR.clo f vs ws h2.length fun i x v hx hv => by
        obtain ⟨b, hb, hr⟩ := h2.get i x hx
        rw [hv] at hb; simp at hb; subst hb; exact hr

theorem mkClo_sound {f : Nat} {caps : List AR} {ws : List Value} (h : All2 (RR X E) caps ws) : CC X E (mkClo f caps) (.func (.func f) #[] ws.toArray) := by
  unfold mkClo
  split
  · rename_i vs ht
    have h2 : All2 (VR (okc X E) E.w.heap) vs ws := h.of_traverse (fun a b c r e => by cases a <;> simp [inlR] at e; subst e; exact r) ht
    exact VR.clo f vs ws h2.length fun i x v hx hv => by
      obtain ⟨b, hb, hr⟩ := h2.get i x hx
      rw [hv] at hb; simp at hb; subst hb; exact hr
  · exact ⟨ws, rfl, h⟩

def okOpds : List Operand → List Opd → Bool
  | [], [] => true
  | x :: l, y :: m => okOpd x y && okOpds l m
  | _, _ => false

theorem caps_sound (hT : TR X E s a) : ∀ {l : List Operand} {m : List Opd} {cs : List AR}, okOpds l m = true →
    traverse (fun o => match ev s o with | .v (.c x) => capOf x | _ => none) m = some cs → All2 (RR X E) cs (l.map a.eval)
  | [], [], cs, _, e => by simp [traverse] at e; subst e; exact .nil
  | x :: l, y :: m, cs, h, e => by
    simp [okOpds] at h
    simp only [traverse] at e
    split at e
    · simp at e
    · rename_i b hb
      split at e
      · simp at e
      · rename_i bs hbs
        simp at e
        subst e
        refine .cons ?_ (caps_sound hT h.2 hbs)
        have r := ev_sound hT h.1
        split at hb
        · rename_i z hz
          rw [hz] at r
          exact capOf_sound (x := z) r hb
        · simp at hb
  | [], _ :: _, _, h, _ => by simp [okOpds] at h
  | _ :: _, [], _, h, _ => by simp [okOpds] at h

theorem op_mkfn (hW : WR X E) (hT : TR X E s a) (hh : E.h = s.hp) (hc : E.ct = s.ct) {f : Nat} {caps : Array Operand} {caps' : List Opd} (ho : o.op = .makeFunc (.func f) #[] caps)
    (hx : okOpds caps.toList caps' = true) (hs : step G s d (.mkfn f caps') = some (v, h', c')) : OpOk P X E o a.eval v h' c' := by
  simp only [step] at hs
  split at hs
  · rename_i cs hcs
    simp at hs
    obtain ⟨rfl, rfl, rfl⟩ := hs
    have r := mkClo_sound (f := f) (caps_sound hT hx hcs)
    rw [← hh, ← hc]
    refine OpOk.pure hW (x := .func (.func f) #[] (caps.toList.map a.eval).toArray) ?_ r
    have e : caps.map a.eval = (caps.toList.map a.eval).toArray := by apply Array.ext'; simp
    simp [execOp, ho, Instr.makeFunc, e]
  · simp at hs

theorem foldV_max : ∀ (l : List AV) (m : List Value) (x z : AV) (y : Value), All2 (AVR X E) l m → AVR X E x y → foldV maxI x l = some z → ∃ q, (m.foldlM Builtin.max2 y).run P E.w = .ok q E.w ∧ AVR X E z q
  | [], _, x, z, y, h, hx, e => by cases h; simp [foldV] at e; subst e; exact ⟨y, by simp, hx⟩
  | u :: l, _, x, z, y, h, hx, e => by
    cases h with
    | @cons _ q _ m h1 h2 =>
      simp only [foldV] at e
      split at e
      · rename_i t ht
        unfold maxI at ht
        split at ht
        · rename_i k p k' r
          split at ht
          · rename_i hk
            subst hk
            simp at ht
            have hx : VR _ _ _ _ := hx
            have h1 : VR _ _ _ _ := h1
            cases hx; cases h1
            obtain ⟨q, q1, q2⟩ := foldV_max l m t z (.int k (if r > p then r else p)) h2 (by subst ht; exact VR.int _ _) e
            exact ⟨q, by simp [List.foldlM_cons, Builtin.max2]; simpa using q1, q2⟩
          · simp at ht
        · simp at ht
      · simp at e

theorem foldV_min : ∀ (l : List AV) (m : List Value) (x z : AV) (y : Value), All2 (AVR X E) l m → AVR X E x y → foldV minI x l = some z → ∃ q, (m.foldlM Builtin.min2 y).run P E.w = .ok q E.w ∧ AVR X E z q
  | [], _, x, z, y, h, hx, e => by cases h; simp [foldV] at e; subst e; exact ⟨y, by simp, hx⟩
  | u :: l, _, x, z, y, h, hx, e => by
    cases h with
    | @cons _ q _ m h1 h2 =>
      simp only [foldV] at e
      split at e
      · rename_i t ht
        unfold minI at ht
        split at ht
        · rename_i k p k' r
          split at ht
          · rename_i hk
            subst hk
            simp at ht
            have hx : VR _ _ _ _ := hx
            have h1 : VR _ _ _ _ := h1
            cases hx; cases h1
            obtain ⟨q, q1, q2⟩ := foldV_min l m t z (.int k (if r < p then r else p)) h2 (by subst ht; exact VR.int _ _) e
            exact ⟨q, by simp [List.foldlM_cons, Builtin.min2]; simpa using q1, q2⟩
          · simp at ht
        · simp at ht
      · simp at e

theorem evs_sound (hT : TR X E s a) : ∀ {l : List Operand} {m : List Opd}, okOpds l m = true → All2 (AVR X E) (m.map (ev s)) (l.map a.eval)
  | [], [], _ => .nil
  | x :: l, y :: m, h => by
    simp [okOpds] at h
    exact .cons (ev_sound hT h.1) (evs_sound hT h.2)
  | [], _ :: _, h => by simp [okOpds] at h
  | _ :: _, [], h => by simp [okOpds] at h

theorem op_mx (hW : WR X E) (hT : TR X E s a) (hh : E.h = s.hp) (hc : E.ct = s.ct) {args : Array Operand} {l : List Opd} {ts : Array TypeId} (ho : o.op = .call { callee := .builtin .max, args := args, argTypes := ts })
    (hx : okOpds args.toList l = true) (hs : step G s d (.mx l) = some (v, h', c')) : OpOk P X E o a.eval v h' c' := by
  have r := evs_sound hT hx
  simp only [step] at hs
  split at hs
  · rename_i x rest e1
    rw [e1] at r
    generalize hq : args.toList.map a.eval = qs at r
    cases r with
    | @cons _ y _ m h1 h2 =>
      cases hf : foldV maxI x rest with
      | none => simp [hf] at hs
      | some z =>
        simp [hf] at hs
        obtain ⟨rfl, rfl, rfl⟩ := hs
        obtain ⟨q, q1, q2⟩ := foldV_max (P := P) rest m x z y h2 h1 hf
        rw [← hh, ← hc]
        refine OpOk.pure hW (x := q) ?_ q2
        have hq2 : (args.map a.eval).toList = y :: m := by rw [← hq]; simp
        simp only [execOp, ho, resolve, invoke, builtin, Sem.run_bind, Sem.run_pure, Result.andThen_ok, Builtin.max_, hq2, q1]
  · simp at hs

theorem op_mn (hW : WR X E) (hT : TR X E s a) (hh : E.h = s.hp) (hc : E.ct = s.ct) {args : Array Operand} {l : List Opd} {ts : Array TypeId} (ho : o.op = .call { callee := .builtin .min, args := args, argTypes := ts })
    (hx : okOpds args.toList l = true) (hs : step G s d (.mn l) = some (v, h', c')) : OpOk P X E o a.eval v h' c' := by
  have r := evs_sound hT hx
  simp only [step] at hs
  split at hs
  · rename_i x rest e1
    rw [e1] at r
    generalize hq : args.toList.map a.eval = qs at r
    cases r with
    | @cons _ y _ m h1 h2 =>
      cases hf : foldV minI x rest with
      | none => simp [hf] at hs
      | some z =>
        simp [hf] at hs
        obtain ⟨rfl, rfl, rfl⟩ := hs
        obtain ⟨q, q1, q2⟩ := foldV_min (P := P) rest m x z y h2 h1 hf
        rw [← hh, ← hc]
        refine OpOk.pure hW (x := q) ?_ q2
        have hq2 : (args.map a.eval).toList = y :: m := by rw [← hq]; simp
        simp only [execOp, ho, resolve, invoke, builtin, Sem.run_bind, Sem.run_pure, Result.andThen_ok, Builtin.min_, hq2, q1]
  · simp at hs

end
end Go.Abs
