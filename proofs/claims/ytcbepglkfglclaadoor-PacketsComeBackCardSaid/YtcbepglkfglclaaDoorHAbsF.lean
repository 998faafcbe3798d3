/-
  The abstract machine beside Go's model: one operation after the other (3): memory.
-/
import Derived.Test.YtcbepglkfglclaaDoorHAbsE
namespace Go.Abs
open Go.RowKit

section
variable {P : Program} {X : Cx} {E : Env} {s : St} {a : Act} {o : Oper} {G : Nat → List IV} {d : Nat} {v : AV} {h' : Heap} {c' : Nat}

theorem op_load (hW : WR X E) (hG : GOk X G) (hT : TR X E s a) (hh : E.h = s.hp) (hc : E.ct = s.ct) {t n : Nat} {agg : Bool} {x : Operand} {x' : Opd} (ho : o.op = .load t x)
    (hx : okOpd x x' = true) (hty : tyOk P t n agg = true) (hs : step G s d (.load n agg x') = some (v, h', c')) : OpOk P X E o a.eval v h' c' := by
  have rx := ev_sound hT hx
  simp only [step] at hs
  split at hs
  · rename_i p e1
    rw [e1] at rx
    split at hs
    · rename_i cells e2
      split at hs
      · rename_i cs e3
        obtain ⟨a1, h1, rfl, rfl, rfl⟩ := ok1_eq hs
        rw [← hh] at e2
        rw [← hh, ← hc]
        obtain ⟨ad, vs, q1, q2, q3, q4⟩ := look_view hW hG (p := p) rx e2 e3
        have hl := run_loadVar_cells hty E.w ad vs q2 q4
        exact OpOk.pure hW (x := valOf agg vs) (by simp [execOp, ho, Instr.loadAt, q1, Instr.sureAddr, hl]) (mk1_sound q3 h1)
      · simp at hs
    · simp at hs
  · simp at hs

/-- What a store of cells makes of a block. -/
theorem setCells_heap (c : Nat) : ∀ (vs : List Value) (o : Nat) (w : World) (cs : Array Value) (e : TypeId) (fr : Nat × Nat), w.heap[c]? = some (.cells cs e fr) →
    ∃ cs', (w.setCells c o vs).heap[c]? = some (.cells cs' e fr) ∧ cs'.size = cs.size ∧ (∀ (i : Nat), o ≤ i → i < o + vs.length → i < cs.size → cs'[i]? = vs[i - o]?) ∧
      (∀ (i : Nat), (i < o ∨ o + vs.length ≤ i) → cs'[i]? = cs[i]?) ∧ (∀ k, k ≠ c → (w.setCells c o vs).heap[k]? = w.heap[k]?) ∧ (w.setCells c o vs).heap.size = w.heap.size ∧
      (w.setCells c o vs).os = w.os ∧ (w.setCells c o vs).tape = w.tape ∧ (w.setCells c o vs).output = w.output
  | [], o, w, cs, e, fr, h => ⟨cs, h, rfl, fun i h1 h2 => by simp at h2; omega, fun _ _ => rfl, fun _ _ => rfl, rfl, rfl, rfl, rfl⟩
  | v :: vs, o, w, cs, e, fr, h => by
    have h1 : (w.setCell ⟨c, o, none⟩ v).heap[c]? = some (.cells (cs.setIfInBounds o v) e fr) := by
      simp [World.setCell, Array.getElem?_modify, h]
    obtain ⟨cs', q1, q2, q3, q4, q5, q6, q7, q8, q9⟩ := setCells_heap c vs (o + 1) (w.setCell ⟨c, o, none⟩ v) _ e fr h1
    refine ⟨cs', q1, by rw [q2]; simp, fun i h2 h3 h4 => ?_, fun i h2 => ?_, fun k hk => ?_, by rw [World.setCells, q6]; simp, by rw [World.setCells, q7]; rfl, by rw [World.setCells, q8]; rfl, by rw [World.setCells, q9]; rfl⟩
    · by_cases e0 : i = o
      · subst e0
        rw [q4 i (by omega)]
        simp [h4]
      · have : i - o = (i - (o + 1)) + 1 := by omega
        rw [q3 i (by omega) (by simp at h3; omega) (by simpa using h4), this]
        simp
    · rw [q4 i (by simp at h2; omega)]
      rw [Array.getElem?_setIfInBounds_ne]
      rcases h2 with h2 | h2
      · omega
      · simp at h2; omega
    · rw [World.setCells, q5 k hk]
      simp only [World.setCell, Array.getElem?_modify]
      rw [if_neg (by omega)]

theorem frozen_no {w : World} {c i : Nat} {cs : Array Value} {e : TypeId} {fr : Nat × Nat} (h : w.heap[c]? = some (.cells cs e fr)) (hf : cs.size ≤ fr.1 ∨ fr.2 ≤ fr.1) (hi : i < cs.size) :
    w.frozen? ⟨c, i, none⟩ = false := by
  obtain ⟨lo, hi'⟩ := fr
  simp only [World.frozen?, h]
  simp at hf ⊢
  omega

theorem run_storeAt_cells {w : World} {c off : Nat} {cs : Array Value} {e : TypeId} {fr : Nat × Nat} {t n : Nat} {agg : Bool} {val : Value} (hty : tyOk P t n agg = true)
    (h : w.heap[c]? = some (.cells cs e fr)) (hf : cs.size ≤ fr.1 ∨ fr.2 ≤ fr.1) (hn : val.cells.size = n) (hfit : n = 0 ∨ off + n ≤ cs.size) (hone : ∀ v ∈ val.cells.toList, One v) :
    (Instr.storeAt t (.pointer (some ⟨c, off, none⟩)) val).run P w = .ok () (w.setCells c off val.cells.toList) := by
  have hsz := run_size hty w
  have hl : val.cells.toList.length = n := by simpa using hn
  have hst := run_storeCells_cells (P := P) c off val.cells.toList 0 w
    (fun j hj => by
      rw [hl] at hj
      rw [cell_of_heap h, Array.getElem?_eq_getElem (by omega)]
      rfl)
    (fun j hj => by
      rw [hl] at hj
      exact frozen_no h hf (by omega))
    (fun v hv => hone v hv)
  simp only [Nat.add_zero] at hst
  simp only [Instr.storeAt, Instr.sureAddr, Sem.run_bind, Sem.run_pure, Result.andThen_ok, storeVar, hsz, hn]
  simp [hst]

theorem All2.one {l : List AC} {m : List Value} (h : All2 (CC X E) l m) : ∀ v ∈ m, One v := by
  induction h with
  | nil => simp
  | cons h _ ih =>
    intro v hv
    rcases List.mem_cons.1 hv with rfl | hv
    · exact CC.one h
    · exact ih v hv

theorem lay_length {cs new : List AC} {off : Nat} (h : off + new.length ≤ cs.length) : (lay cs off new).length = cs.length := by
  simp [lay]; omega

theorem lay_get {cs new : List AC} {off : Nat} (h : off + new.length ≤ cs.length) (i : Nat) :
    (lay cs off new)[i]? = if off ≤ i ∧ i < off + new.length then new[i - off]? else cs[i]? := by
  unfold lay
  by_cases h1 : i < off
  · rw [if_neg (by omega), List.append_assoc, List.getElem?_append_left (by simp; omega), List.getElem?_take_of_lt h1]
  · by_cases h2 : i < off + new.length
    · rw [if_pos (by omega), List.append_assoc, List.getElem?_append_right (by simp; omega)]
      rw [List.length_take, Nat.min_eq_left (by omega), List.getElem?_append_left (by omega)]
    · rw [if_neg (by omega), List.getElem?_append_right (by simp; omega), List.getElem?_drop]
      congr 1
      simp
      omega

/-- A BLOCK WRITTEN IN PLACE. -/
theorem put_write (hW : WR X E) {b g off : Nat} {cs new : List AC} {vs : List Value} (hrow : E.h.row b g = some cs) (hfit : off + new.length ≤ cs.length) (hoff : (E.m b).2 ≤ off) (r : All2 (CC X E) new vs) :
    ∃ E', E'.w = E.w.setCells (E.m b).1 (off - (E.m b).2) vs ∧ E'.ct = E.ct ∧ Put X E E' b (.cells g (lay cs off new)) (E.m b).1 ∧ BR X E' b (.cells g (lay cs off new)) := by
  obtain ⟨hget, hcur⟩ := Heap.row_eq hrow
  obtain ⟨⟨cc, e, fr, r1, r2, r3, r4⟩, hgen, _⟩ := hW.blk b _ hget
  have hl := r.length
  obtain ⟨cs', q1, q2, q3, q4, q5, q6, q7, q8, q9⟩ := setCells_heap (E.m b).1 vs (off - (E.m b).2) E.w cc e fr r1
  have hP : Put X E { h := E.h.set b (.cells g (lay cs off new)), m := E.m, ct := E.ct, w := E.w.setCells (E.m b).1 (off - (E.m b).2) vs } b (.cells g (lay cs off new)) (E.m b).1 :=
    { h := rfl, ct := Nat.le_refl _, gen := hgen, m := fun _ _ => rfl, size := by simp only; rw [q6]; exact Nat.le_refl _, heap := fun k _ hk => q5 k hk, c0 := .inr ⟨by simp [hget], rfl⟩,
      at_ := .inr ⟨by simp [hget], rfl⟩,
      old := fun _ => ⟨hcur, rfl, fun cc2 e2 fr2 h2 => by
        rw [r1] at h2
        injection h2 with h2
        injection h2 with h2 h3 h4
        exact ⟨cs', e, fr, q1, by rw [q2, h2]⟩⟩,
      os := q7, tape := q8, output := q9 }
  have hE := hP.ext hW
  refine ⟨{ h := E.h.set b (.cells g (lay cs off new)), m := E.m, ct := E.ct, w := E.w.setCells (E.m b).1 (off - (E.m b).2) vs }, rfl, rfl, hP, ⟨cs', e, fr, q1, by rw [q2]; exact r2, by rw [lay_length hfit]; exact r3, fun i x hi hx => ?_⟩⟩
  simp only at hi ⊢
  rw [lay_get hfit] at hx
  split at hx
  · rename_i h1
    obtain ⟨v, hv, hr⟩ := r.get _ _ hx
    refine ⟨v, ?_, hr.ext hE⟩
    have hlt : i - (E.m b).2 < cc.size := by
      have hi2 : i < cs.length := by omega
      obtain ⟨v0, hv0, _⟩ := r4 i cs[i] hi (by simp [hi2])
      exact (Array.getElem?_eq_some_iff.1 hv0).1
    rw [q3 (i - (E.m b).2) (by omega) (by omega) hlt]
    have : i - (E.m b).2 - (off - (E.m b).2) = i - off := by omega
    rw [this]; exact hv
  · rename_i h1
    obtain ⟨v, hv, hr⟩ := r4 i x hi hx
    refine ⟨v, ?_, hr.ext hE⟩
    rw [q4 (i - (E.m b).2) (by omega)]
    exact hv

theorem op_store (hW : WR X E) (hT : TR X E s a) (hh : E.h = s.hp) (hc : E.ct = s.ct) {t n : Nat} {agg : Bool} {x y : Operand} {x' y' : Opd} (ho : o.op = .store t x y)
    (hx : okOpd x x' = true) (hy : okOpd y y' = true) (hty : tyOk P t n agg = true) (hs : step G s d (.store n x' y') = some (v, h', c')) : OpOk P X E o a.eval v h' c' := by
  have rx := ev_sound hT hx
  have ry := ev_sound hT hy
  simp only [step] at hs
  split at hs
  · rename_i b g off w e1 e2
    split at hs
    · rename_i cs e3
      split at hs
      · rename_i hcond
        obtain ⟨hn, hfit⟩ := hcond
        simp at hs
        obtain ⟨rfl, rfl, rfl⟩ := hs
        rw [e1] at rx; rw [e2] at ry
        rw [← hh] at e3
        obtain ⟨hget, hcur⟩ := Heap.row_eq e3
        obtain ⟨_, _, h3⟩ := rx
        obtain ⟨h4, h5⟩ := h3 hcur
        have rc := cells_sound (a1 := w) ry
        obtain ⟨E', f1, f2, f3, f4⟩ := put_write hW e3 (by omega) h4 rc
        obtain ⟨⟨cc, e, fr, r1, r2, r3, r4⟩, hgen, _⟩ := hW.blk b _ hget
        have hnl := rc.length
        have hst := run_storeAt_cells (P := P) (off := off - (E.m b).2) (val := a.eval y) hty r1 r2 (by simp at hnl; omega)
          (by
            rcases Nat.eq_zero_or_pos n with h0 | h0
            · exact .inl h0
            · obtain ⟨v0, hv0, _⟩ := r4 (off + n - 1) (cs[off + n - 1]'(by omega)) (by omega) (by simp)
              have := (Array.getElem?_eq_some_iff.1 hv0).1
              exact .inr (by omega))
          (All2.one rc)
        rw [← hc, ← f2, ← hh]
        exact OpOk.putU hW f3 (by simp [execOp, ho, h5, hst, f1]) f4
      · simp at hs
    · simp at hs
  · simp at hs

/-- A NEW BLOCK OF CELLS. -/
theorem put_new (hW : WR X E) (d : Nat) {cs : List AC} {vs : List Value} (e : TypeId) (fr : Nat × Nat) (rest : List Value) (r : All2 (CC X E) cs vs) (w : World)
    (hw : w.heap = E.w.heap.push (.cells (vs ++ rest).toArray e fr)) (hf : (vs ++ rest).length ≤ fr.1 ∨ fr.2 ≤ fr.1) (ho : w.os = E.w.os) (ht : w.tape = E.w.tape) (hu : w.output = E.w.output) :
    Put X E (E.new d (.cells E.ct cs) w) d (.cells E.ct cs) E.w.heap.size ∧ BR X (E.new d (.cells E.ct cs) w) d (.cells E.ct cs) := by
  have hP := Put.new X E d (.cells E.ct cs) w rfl (by rw [hw]; simp) (fun k hk => by rw [hw, Array.getElem?_push, if_neg (by omega)]) ho ht hu
  have hE := hP.ext hW
  have hl := r.length
  refine ⟨hP, (vs ++ rest).toArray, e, fr, ?_, by simpa using hf, by simp [Env.new], fun i x _ hx => ?_⟩
  · simp only [Env.new, if_true]
    rw [hw, Array.getElem?_push]
    simp
  · obtain ⟨v, hv, hr⟩ := r.get i x hx
    refine ⟨v, ?_, hr.ext hE⟩
    simp only [Env.new, if_true, Nat.sub_zero]
    have : i < vs.length := (List.getElem?_eq_some_iff.1 hv).1
    simp [List.getElem?_append_left this, hv]

theorem cur_new {E : Env} {d : Nat} {x : Blk} {w : World} (hg : x.gen = E.ct) : (E.new d x w).h.cur d = some E.ct := by simp [Env.new, Heap.cur_set, hg]

/-- The pointer to a new block. -/
theorem ptr_new {d : Nat} {x : Blk} {w : World} : AVR X (E.new d x w) (.v (.c (.r (.ptr d E.ct 0)))) (.pointer (some ⟨E.w.heap.size, 0, none⟩)) :=
  ⟨rfl, Nat.lt_succ_self _, fun _ => by simp [Env.new]⟩

/-- The cells of a type's zero value. -/
def zeroOk (P : Program) (t : Nat) (cs : List IV) : Bool :=
  match P.info? t with
  | some i => match i.zero with
    | some z => constIVs z.cells.toList cs
    | none => false
  | none => false

theorem zeroOk_parts {t : Nat} {cs : List IV} (h : zeroOk P t cs = true) : ∃ i z, P.info? t = some i ∧ i.zero = some z ∧ ∀ p hh, All2 (VR p hh) cs z.cells.toList := by
  unfold zeroOk at h
  split at h
  · rename_i i hi
    split at h
    · rename_i z hz
      exact ⟨i, z, hi, hz, fun p hh => constIVs_sound h⟩
    · simp at h
  · simp at h

theorem op_alloc (hW : WR X E) (hh : E.h = s.hp) (hc : E.ct = s.ct) {t : Nat} {cs : List IV} (ho : o.op = .alloc t) (hz : zeroOk P t cs = true)
    (hs : step G s d (.alloc cs) = some (v, h', c')) : OpOk P X E o a.eval v h' c' := by
  simp only [step] at hs
  simp at hs
  obtain ⟨rfl, rfl, rfl⟩ := hs
  obtain ⟨i, z, hi, hzz, rz⟩ := zeroOk_parts hz
  have r : All2 (CC X E) (cs.map I) z.cells.toList := (rz (okc X E) E.w.heap).map I fun _ _ r => r
  obtain ⟨hP, hB⟩ := put_new hW d (t) (0, 0) [] r (E.w.alloc (.cells z.cells t)) (by simp only [List.append_nil, Array.toArray_toList]; rfl) (.inr (Nat.le_refl _)) rfl rfl rfl
  rw [← hh, ← hc]
  exact OpOk.put hW hP (x := .pointer (some ⟨E.w.heap.size, 0, none⟩)) (by simp [execOp, ho, Instr.alloc, zeroValue, typeInfo, hi, hzz, newVar, newRow, Env.new]) hB ptr_new

theorem op_box (hW : WR X E) (hT : TR X E s a) (hh : E.h = s.hp) (hc : E.ct = s.ct) {t n : Nat} {x : Operand} {x' : Opd} (ho : o.op = .box t x)
    (hx : okOpd x x' = true) (hs : step G s d (.box n x') = some (v, h', c')) : OpOk P X E o a.eval v h' c' := by
  have rx := ev_sound hT hx
  simp only [step] at hs
  split at hs
  · rename_i a1 e1
    split at hs
    · simp at hs
      obtain ⟨rfl, rfl, rfl⟩ := hs
      rw [e1] at rx
      have r := cells_sound (a1 := a1) rx
      obtain ⟨hP, hB⟩ := put_new hW d t (0, 0) [] r (E.w.alloc (.cells (a.eval x).cells t)) (by simp only [List.append_nil, Array.toArray_toList]; rfl) (.inr (Nat.le_refl _)) rfl rfl rfl
      rw [← hh, ← hc]
      exact OpOk.put hW hP (x := .pointer (some ⟨E.w.heap.size, 0, none⟩)) (by simp [execOp, ho, Instr.box, newVar, newRow, Env.new]) hB ptr_new
    · simp at hs
  · simp at hs

theorem op_nilchk (hW : WR X E) (hT : TR X E s a) (hh : E.h = s.hp) (hc : E.ct = s.ct) {x : Operand} {x' : Opd} (ho : o.op = .nilCheck x)
    (hx : okOpd x x' = true) (hs : step G s d (.nilchk x') = some (v, h', c')) : OpOk P X E o a.eval v h' c' := by
  have rx := ev_sound hT hx
  simp only [step] at hs
  split at hs
  · rename_i b g off e1
    split at hs
    · rename_i hcur
      simp at hs
      obtain ⟨rfl, rfl, rfl⟩ := hs
      rw [e1] at rx
      rw [← hh, ← hc]
      obtain ⟨q1, q2, q3⟩ := rx
      obtain ⟨q4, q5⟩ := q3 (by rw [hh]; exact hcur)
      exact OpOk.pure hW (x := a.eval x) (by simp [execOp, ho, q5]) ⟨q1, q2, q3⟩
    · simp at hs
  · rename_i t cs e1
    simp at hs
    obtain ⟨rfl, rfl, rfl⟩ := hs
    rw [e1] at rx
    rw [← hh, ← hc]
    have rx2 : VR _ _ _ _ := rx
    have : ∃ ad, a.eval x = .pointer (some ad) := by generalize a.eval x = q at rx2; cases rx2 <;> exact ⟨_, rfl⟩
    obtain ⟨ad, hq⟩ := this
    exact OpOk.pure hW (x := a.eval x) (by simp [execOp, ho, hq]) rx
  · rename_i g off e1
    simp at hs
    obtain ⟨rfl, rfl, rfl⟩ := hs
    rw [e1] at rx
    rw [← hh, ← hc]
    have rx2 : VR _ _ _ _ := rx
    have : ∃ ad, a.eval x = .pointer (some ad) := by generalize a.eval x = q at rx2; cases rx2 <;> exact ⟨_, rfl⟩
    obtain ⟨ad, hq⟩ := this
    exact OpOk.pure hW (x := a.eval x) (by simp [execOp, ho, hq]) rx
  · rename_i f cs e1
    simp at hs
    obtain ⟨rfl, rfl, rfl⟩ := hs
    rw [e1] at rx
    rw [← hh, ← hc]
    have rx2 : VR _ _ _ _ := rx
    have : ∃ vs, a.eval x = .func (.func f) #[] vs := by generalize a.eval x = q at rx2; cases rx2; exact ⟨_, rfl⟩
    obtain ⟨ad, hq⟩ := this
    exact OpOk.pure hW (x := a.eval x) (by simp [execOp, ho, hq]) rx
  · rename_i f cs e1
    simp at hs
    obtain ⟨rfl, rfl, rfl⟩ := hs
    rw [e1] at rx
    rw [← hh, ← hc]
    obtain ⟨vs, q1, q2⟩ := rx
    exact OpOk.pure hW (x := a.eval x) (by simp [execOp, ho, q1]) ⟨vs, q1, q2⟩
  · simp at hs

/-- The check of a field's place. -/
def fadrOk (P : Program) (t f off : Nat) : Bool :=
  match P.underlying t with
  | some (.struct fs) => match fs[f]? with
    | some fd => fd.offset == off && (match P.info? fd.type with | some i => i.size != 0 | none => false)
    | none => false
  | _ => false

theorem op_fadr (hW : WR X E) (hT : TR X E s a) (hh : E.h = s.hp) (hc : E.ct = s.ct) {t f off : Nat} {x : Operand} {x' : Opd} (ho : o.op = .fieldAddr t x f)
    (hx : okOpd x x' = true) (hf : fadrOk P t f off = true) (hs : step G s d (.fadr off x') = some (v, h', c')) : OpOk P X E o a.eval v h' c' := by
  have rx := ev_sound hT hx
  unfold fadrOk at hf
  split at hf
  · rename_i fs hu
    split at hf
    · rename_i fd hfd
      simp at hf
      obtain ⟨rfl, hsz⟩ := hf
      split at hsz
      · rename_i i hi
        simp at hsz
        have run : ∀ ad, a.eval x = .pointer (some ad) → (execOp a.eval o).run P E.w = .ok (.value (.pointer (some (ad.add fd.offset)))) E.w := fun ad h => by
          simp [execOp, ho, h, Instr.fieldAt, run_underlying hu, hfd, Instr.sureAddr, fieldPlace, sizeOf, typeInfo, hi, hsz]
        simp only [step] at hs
        split at hs
        · rename_i b g oo e1
          split at hs
          · rename_i hcur
            simp at hs
            obtain ⟨rfl, rfl, rfl⟩ := hs
            rw [e1] at rx
            rw [← hh, ← hc]
            obtain ⟨q1, q2, q3⟩ := rx
            obtain ⟨q4, q5⟩ := q3 (by rw [hh]; exact hcur)
            refine OpOk.pure hW (run _ q5) ⟨rfl, q2, fun _ => ⟨by omega, ?_⟩⟩
            rw [addr_add]
            congr 3
            omega
          · simp at hs
        · rename_i tt cs e1
          simp at hs
          obtain ⟨rfl, rfl, rfl⟩ := hs
          rw [e1] at rx
          rw [← hh, ← hc]
          have rx2 : VR _ _ _ _ := rx
          generalize hq : a.eval x = q at rx2
          cases rx2 with
          | lp _ _ c o2 cc e fr vs h1 h2 h3 h4 h5 =>
            refine OpOk.pure hW (run _ hq) ?_
            rw [addr_add]
            refine VR.lp _ _ c _ cc e fr (vs.drop fd.offset) h1 h2 (by simp [h3]) (fun i v hv => ?_) (fun i x v hx hv => ?_)
            · rw [List.getElem?_drop] at hv
              rw [Nat.add_assoc]; exact h4 _ v hv
            · rw [List.getElem?_drop] at hx hv
              exact h5 _ x v hx hv
          | lp0 _ ad =>
            refine OpOk.pure hW (run _ hq) ?_
            rw [List.drop_nil]
            exact VR.lp0 _ _
        · rename_i g oo e1
          simp at hs
          obtain ⟨rfl, rfl, rfl⟩ := hs
          rw [e1] at rx
          rw [← hh, ← hc]
          have rx2 : VR _ _ _ _ := rx
          generalize hq : a.eval x = q at rx2
          cases rx2
          refine OpOk.pure hW (run _ hq) ?_
          rw [addr_add]
          exact VR.gp _ _
        · simp at hs
      · simp at hsz
    · simp at hf
  · simp at hf

end
end Go.Abs
