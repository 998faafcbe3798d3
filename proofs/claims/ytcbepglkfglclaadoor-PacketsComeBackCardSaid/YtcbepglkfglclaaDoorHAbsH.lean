/-
  The abstract machine beside Go's model: one operation after the other (5): append, make, literals, len, and their kin.
-/
import Derived.Test.YtcbepglkfglclaaDoorHAbsG
namespace Go.Abs
open Go.RowKit

section
variable {P : Program} {X : Cx} {E : Env} {s : St} {a : Act} {o : Oper} {G : Nat → List IV} {d : Nat} {v : AV} {h' : Heap} {c' : Nat}

def appT (P : Program) (t sz bytes : Nat) : Bool :=
  match P.underlying t with
  | some (.slice e) => match P.info? e with
    | some i => i.size == sz && i.bytes == bytes && (match i.zero with | some z => z.cells.size == sz | none => false)
    | none => false
  | _ => false

theorem appT_eq {t sz bytes : Nat} (h : appT P t sz bytes = true) : ∃ e i z, P.underlying t = some (.slice e) ∧ P.info? e = some i ∧ i.size = sz ∧ i.bytes = bytes ∧ i.zero = some z ∧ z.cells.size = sz := by
  unfold appT at h
  split at h
  · rename_i e hu
    split at h
    · rename_i i hi
      simp at h
      obtain ⟨⟨h1, h2⟩, h3⟩ := h
      split at h3
      · rename_i z hz
        simp at h3
        exact ⟨e, i, z, hu, hi, h1, h2, hz, h3⟩
      · simp at h3
    · simp at h
  · simp at h

def srcT (P : Program) (tx : Nat) (str : Bool) : Bool :=
  match P.underlying tx with
  | some (.slice _) => !str
  | some .string => str
  | _ => false

theorem src_sound2 (hW : WR X E) {sz tx : Nat} {str : Bool} {b : AC} {y : Value} {new : List AC} {n : Nat} (ht : srcT P tx str = true) (r : CC X E b y)
    (e : (if isStrC b = str then slCells E.h sz b else none) = some (new, n)) : ∃ vs, Src P sz tx y n vs E.w ∧ All2 (CC X E) new vs := by
  split at e
  · rename_i hstr
    refine src_sound hW r ?_ ?_ e
    · rintro ⟨l, rfl⟩
      simp [isStrC] at hstr
      subst hstr
      unfold srcT at ht
      split at ht <;> simp at ht
      assumption
    · intro hn
      have : isStrC b = false := by
        unfold isStrC
        split
        · exact absurd ⟨_, rfl⟩ hn
        · rfl
      rw [this] at hstr
      subst hstr
      unfold srcT at ht
      split at ht <;> simp at ht
      exact ⟨_, by assumption⟩
  · simp at e

theorem fits {need old bytes : Nat} (h : old < need) (hb : need * bytes ≤ 17592186044416) : Builtin.nextslicecap need old * bytes ≤ 281474976710656 :=
  growslice_fits h (Nat.le_trans hb (by decide))

/-- THE APPENDED ROW IN A NEW BLOCK. -/
theorem put_grow (hW : WR X E) (b : Nat) {cs : List AC} {vs : List Value} (sh : Nat) (e : TypeId) (rest : List Value) (r : All2 (CC X E) (cs.drop sh) vs) (hsh : sh ≤ cs.length) (w : World)
    (hw : w.heap = E.w.heap.push (.cells (vs ++ rest).toArray e)) (ho : w.os = E.w.os) (ht : w.tape = E.w.tape) (hu : w.output = E.w.output) :
    ∃ E', E'.w = w ∧ E'.ct = E.ct + 1 ∧ E'.h.cur b = some E.ct ∧ E'.m b = (E.w.heap.size, sh) ∧ Put X E E' b (.cells E.ct cs) E.w.heap.size ∧ BR X E' b (.cells E.ct cs) := by
  let E' : Env := { h := E.h.set b (.cells E.ct cs), m := fun k => if k = b then (E.w.heap.size, sh) else E.m k, ct := E.ct + 1, w }
  have hP : Put X E E' b (.cells E.ct cs) E.w.heap.size :=
    { h := rfl, ct := Nat.le_succ _, gen := Nat.lt_succ_self _, m := fun b' hb => by simp [E', hb], size := by simp [E', hw], heap := fun k hk _ => by simp only [E']; rw [hw, Array.getElem?_push, if_neg (by omega)],
      c0 := .inl (Nat.le_refl _), at_ := .inl (by simp [E']), old := fun h => by simp [Blk.gen] at h, os := ho, tape := ht, output := hu }
  have hE := hP.ext hW
  refine ⟨E', rfl, rfl, by simp [E', Heap.cur_set, Blk.gen], by simp [E'], hP, (vs ++ rest).toArray, e, (0, 0), ?_, .inr (Nat.le_refl _), by simpa [E'] using hsh, fun i x hi hx => ?_⟩
  · simp only [E', if_true]
    rw [hw, Array.getElem?_push]
    simp
  · simp only [E', if_true] at hi ⊢
    obtain ⟨v, hv, hr⟩ := r.get (i - sh) x (by rw [List.getElem?_drop]; rw [show sh + (i - sh) = i from by omega]; exact hx)
    refine ⟨v, ?_, hr.ext hE⟩
    have : i - sh < vs.length := (List.getElem?_eq_some_iff.1 hv).1
    simp [List.getElem?_append_left this, hv]

theorem run_app {t tx : Nat} {x y : Operand} (ho : o.op = .call { callee := .builtin .append, args := #[x, y], argTypes := #[t, tx] }) {z : Value} {w' : World}
    (h : (Builtin.append_ #[t, tx] o.type #[a.eval x, a.eval y]).run P E.w = .ok z w') : (execOp a.eval o).run P E.w = .ok (.value z) w' := by
  simp [execOp, ho, resolve, invoke, builtin, h]

/-- NOTHING IS APPENDED to an empty slice without room. -/
theorem run_app_none {t tx e : Nat} {i : TypeInfo} (hu : P.underlying t = some (.slice e)) (hi : P.info? e = some i) {base : Option Addr} {y : Value} (hsrc : Src P i.size tx y 0 [] E.w) (ty : TypeId) :
    (Builtin.append_ #[t, tx] ty #[.slice base 0 0, y]).run P E.w = .ok (.slice base 0 0) E.w := by
  have h1 := hsrc.cells
  rcases hsrc.kind with ⟨e', hk⟩ | hk <;> cases base <;> simp [Builtin.append_, run_underlying hu, run_underlying hk, sizeOf, typeInfo, hi, hsrc.len, h1, storeCells]

/-- WHAT IS APPENDED, wherever it comes from. -/
structure SrcA (P : Program) (t tx e : TypeId) (i : TypeInfo) (z y : Value) (n : Nat) (news : List Value) (w : World) : Prop where
  newsLen : news.length = n * i.size
  room : ∀ (b off sLen sCap : Nat) (ty : TypeId), sLen + n ≤ sCap → (sLen + n) * i.bytes ≤ 17592186044416 → (∀ j, j < news.length → (w.cell? ⟨b, off + sLen * i.size + j, none⟩).isSome = true) →
    (∀ j, j < news.length → w.frozen? ⟨b, off + sLen * i.size + j, none⟩ = false) →
    (Builtin.append_ #[t, tx] ty #[.slice (some ⟨b, off, none⟩) sLen sCap, y]).run P w = .ok (.slice (some ⟨b, off, none⟩) (sLen + n) sCap) (w.setCells b (off + sLen * i.size) news)
  grow : ∀ (base : Option Addr) (sLen sCap : Nat) (olds : List Value) (ty : TypeId), (Builtin.firstCells i.size sLen (.slice base sLen sCap)).run P w.drew = .ok olds.toArray w.drew → sCap < sLen + n →
    (sLen + n) * i.bytes ≤ 17592186044416 → sLen + n ≤ 17592186044416 →
    (Builtin.append_ #[t, tx] ty #[.slice base sLen sCap, y]).run P w = .ok (.slice (some ⟨w.heap.size, 0, none⟩) (sLen + n) (grownCap w (sLen + n) sCap e))
      (w.drew.alloc (.cells ((olds ++ news).toArray ++ Builtin.zeroCells z.cells (grownCap w (sLen + n) sCap e - (sLen + n))) e))
  none : ∀ (base : Option Addr) (ty : TypeId), n = 0 → news = [] → (Builtin.append_ #[t, tx] ty #[.slice base 0 0, y]).run P w = .ok (.slice base 0 0) w
theorem _root_.Go.Src.toA {t tx e : TypeId} {i : TypeInfo} {z y : Value} {n : Nat} {news : List Value} {w : World} (hu : P.underlying t = some (.slice e)) (hi : P.info? e = some i) (hz : i.zero = some z) (h : Src P i.size tx y n news w) : SrcA P t tx e i z y n news w :=
  ⟨h.newsLen, fun b off sLen sCap ty hr _ h1 h2 => run_append_room_src (P := P) w t tx ty e i hu hi b off sLen sCap y n news h hr h1 h2,
    fun base sLen sCap olds ty ho hr h1 h2 => run_append_grow_src (P := P) w t tx ty e i z hu hi hz base sLen sCap olds ho y n news h hr (by omega) (fits hr h1),
    fun base ty hn hv => by
      subst hn; subst hv
      let E0 : Env := { h := [], m := fun _ => (0, 0), ct := 0, w := w }
      exact run_app_none (E := E0) hu hi h ty⟩

/-- AN append THAT FINDS NO ROOM. -/
theorem app_grow (hW : WR X E) {t tx e : Nat} {i : TypeInfo} {z : Value} {x y : Operand} (ho : o.op = .call { callee := .builtin .append, args := #[x, y], argTypes := #[t, tx] })
    (hu : P.underlying t = some (.slice e)) (hi : P.info? e = some i) (hz : i.zero = some z) (hzs : z.cells.size = i.size) {base : Option Addr} {len cap n : Nat} (ex : a.eval x = .slice base len cap)
    {olds news : List Value} (hold : (Builtin.firstCells i.size len (.slice base len cap)).run P E.w.drew = .ok olds.toArray E.w.drew) (hol : olds.length = len * i.size) (hsrc : SrcA P t tx e i z (a.eval y) n news E.w)
    (hroom : cap < len + n) (hfit1 : (len + n) * i.bytes ≤ 17592186044416) (hfit2 : len + n ≤ 17592186044416) (b sh : Nat) {cs : List AC} (hsh : sh ≤ cs.length) (r : All2 (CC X E) (cs.drop sh) (olds ++ news)) :
    OpOk P X E o a.eval (.v (.c (.r (.sl b E.ct sh i.size (len + n))))) (E.h.set b (.cells E.ct cs)) (E.ct + 1) := by
  have hrun := hsrc.grow base len cap olds o.type hold hroom hfit1 hfit2
  have hge := grownCap_ge E.w (len + n) cap e
  obtain ⟨E', f1, f2, f3, f4, f5, f6⟩ := put_grow hW b sh e (Builtin.zeroCells z.cells (grownCap E.w (len + n) cap e - (len + n))).toList (cs := cs) (vs := olds ++ news) r hsh
    (E.w.drew.alloc (.cells ((olds ++ news).toArray ++ Builtin.zeroCells z.cells (grownCap E.w (len + n) cap e - (len + n))) e))
    (by
      show E.w.heap.push _ = _
      congr 2
      apply Array.ext'
      simp) rfl rfl rfl
  rw [← f2]
  rw [← f1] at hrun
  refine OpOk.put (x := .slice (some ⟨E.w.heap.size, 0, none⟩) (len + n) (grownCap E.w (len + n) cap e)) hW f5 (run_app ho (by rw [ex]; exact hrun)) f6 ⟨rfl, by rw [f2]; exact Nat.lt_succ_self _, fun _ => ?_⟩
  rw [f4]
  refine ⟨Nat.le_refl _, .inl ⟨grownCap E.w (len + n) cap e, by simp, hge, (olds ++ news ++ (Builtin.zeroCells z.cells (grownCap E.w (len + n) cap e - (len + n))).toList).toArray, e, (0, 0), ?_, ?_⟩⟩
  · rw [f1]
    show (E.w.heap.push _)[_]? = _
    simp
  · have h1 := size_zeroCells z.cells (grownCap E.w (len + n) cap e - (len + n))
    have h2 := hsrc.newsLen
    simp only [List.size_toArray, List.length_append, Array.length_toList, h1, h2, hzs, hol, Nat.sub_self, Nat.zero_add]
    rw [← Nat.add_mul, ← Nat.add_mul]
    congr 1
    omega

/-- AN append THAT FINDS ROOM. -/
theorem app_room (hW : WR X E) {t tx e : Nat} {i : TypeInfo} {z : Value} {x y : Operand} (ho : o.op = .call { callee := .builtin .append, args := #[x, y], argTypes := #[t, tx] })
    (hu : P.underlying t = some (.slice e)) (hi : P.info? e = some i) {b off len cap n : Nat} {cs new : List AC} {g : Nat} (hget : E.h.get b = some (.cells g cs)) (hoff : (E.m b).2 ≤ off)
    (ex : a.eval x = .slice (some ⟨(E.m b).1, off - (E.m b).2, none⟩) len cap) (hcap : CapOk E.w (E.m b).1 (off - (E.m b).2) i.size len cap) {news : List Value}
    (hlen : off + len * i.size ≤ cs.length) (hsrc : SrcA P t tx e i z (a.eval y) n news E.w) (rnew : All2 (CC X E) new news) (hroom : len + n ≤ cap) (hfit1 : (len + n) * i.bytes ≤ 17592186044416) :
    OpOk P X E o a.eval (.v (.c (.r (.sl b E.ct off i.size (len + n))))) (E.h.set b (.cells E.ct (cs.take (off + len * i.size) ++ new))) (E.ct + 1) := by
  obtain ⟨⟨cc, e0, fr, r1, r2, r3, r4⟩, hgen, _⟩ := hW.blk b _ hget
  obtain ⟨q6, cs2, e2, fr2, q7, q8⟩ := hcap
  rw [r1] at q7
  have hcc : cc = cs2 := by injection q7 with q7; injection q7
  subst hcc
  have hfit : off - (E.m b).2 + len * i.size + news.length ≤ cc.size := by
    rw [← q8, hsrc.newsLen]
    have : (len + n) * i.size ≤ cap * i.size := Nat.mul_le_mul_right _ hroom
    rw [Nat.add_mul] at this
    omega
  have hrun := hsrc.room (E.m b).1 (off - (E.m b).2) len cap o.type hroom hfit1
    (fun j hj => by rw [cell_of_heap r1, Array.getElem?_eq_getElem (by omega)]; rfl) (fun j hj => frozen_no r1 r2 (by omega))
  obtain ⟨cs', p1, p2, p3, p4, p5, p6, p7, p8, p9⟩ := setCells_heap (E.m b).1 news (off - (E.m b).2 + len * i.size) E.w cc e0 fr r1
  let E' : Env := { h := E.h.set b (.cells E.ct (cs.take (off + len * i.size) ++ new)), m := E.m, ct := E.ct + 1, w := E.w.setCells (E.m b).1 (off - (E.m b).2 + len * i.size) news }
  have hP : Put X E E' b (.cells E.ct (cs.take (off + len * i.size) ++ new)) (E.m b).1 :=
    { h := rfl, ct := Nat.le_succ _, gen := Nat.lt_succ_self _, m := fun _ _ => rfl, size := by simp only [E']; rw [p6]; exact Nat.le_refl _, heap := fun k _ hk => p5 k hk, c0 := .inr ⟨by simp [hget], rfl⟩,
      at_ := .inr ⟨by simp [hget], rfl⟩, old := fun h => by simp [Blk.gen] at h, os := p7, tape := p8, output := p9 }
  have hE := hP.ext hW
  have hB : BR X E' b (.cells E.ct (cs.take (off + len * i.size) ++ new)) := by
    refine ⟨cs', e0, fr, p1, by rw [p2]; exact r2, by simp [E']; omega, fun k x hk hx => ?_⟩
    simp only [E'] at hk ⊢
    by_cases hk2 : k < off + len * i.size
    · rw [List.getElem?_append_left (by simp; omega), List.getElem?_take_of_lt hk2] at hx
      obtain ⟨v, hv, hr⟩ := r4 k x hk hx
      exact ⟨v, by rw [p4 _ (by omega)]; exact hv, hr.ext hE⟩
    · rw [List.getElem?_append_right (by simp; omega)] at hx
      have hlt : (cs.take (off + len * i.size)).length = off + len * i.size := by simp; omega
      rw [hlt] at hx
      obtain ⟨v, hv, hr⟩ := rnew.get _ x hx
      have hk3 : k - (off + len * i.size) < news.length := (List.getElem?_eq_some_iff.1 hv).1
      refine ⟨v, ?_, hr.ext hE⟩
      rw [p3 (k - (E.m b).2) (by omega) (by omega) (by omega)]
      rw [← hv]
      congr 1
      omega
  exact OpOk.put (x := .slice (some ⟨(E.m b).1, off - (E.m b).2, none⟩) (len + n) cap) hW hP (run_app ho (by rw [ex]; exact hrun)) hB
    ⟨rfl, Nat.lt_succ_self _, fun _ => ⟨hoff, .inl ⟨cap, rfl, hroom, cs', e0, fr, p1, by rw [p2]; exact q8⟩⟩⟩

/-- WHAT IS APPENDED comes to lie behind what was there. -/
theorem appTo_sound (hW : WR X E) (hh : E.h = s.hp) (hc : E.ct = s.ct) {t tx e : Nat} {i : TypeInfo} {z : Value} {x y : Operand}
    (ho : o.op = .call { callee := .builtin .append, args := #[x, y], argTypes := #[t, tx] }) (hu : P.underlying t = some (.slice e)) (hi : P.info? e = some i) (hz : i.zero = some z) (hzs : z.cells.size = i.size)
    {ca : AC} (rx : CC X E ca (a.eval x)) {new : List AC} {n : Nat} {news : List Value} (hsrc : SrcA P t tx e i z (a.eval y) n news E.w) (rnew : All2 (CC X E) new news)
    (hs : appTo s d i.size i.bytes ca new n = some (v, h', c')) : OpOk P X E o a.eval v h' c' := by
  unfold appTo at hs
  have hnl : new.length = n * i.size := by have := rnew.length; have := hsrc.newsLen; omega
  have zero : n = 0 → news = [] ∧ new = [] := fun hn => by
    subst hn
    exact ⟨by have := hsrc.newsLen; simpa using this, by simpa using hnl⟩
  have empty : ∀ base, a.eval x = .slice base 0 0 → n ≠ 0 → n * i.bytes ≤ 17592186044416 ∧ n ≤ 17592186044416 →
      OpOk P X E o a.eval (.v (.c (.r (.sl d E.ct 0 i.size n)))) (E.h.set d (.cells E.ct new)) (E.ct + 1) := fun base hb hn hfit => by
    have h := app_grow hW ho hu hi hz hzs hb (olds := []) (by cases base <;> simp [Builtin.firstCells, loadCells, loadCellsFrom]) (by simp) hsrc (by omega) (by simpa using hfit.1) (by simpa using hfit.2) d 0 (Nat.zero_le _) (by simpa using rnew)
    simpa using h
  split at hs
  · have ex : a.eval x = .slice none 0 0 := by have rx : VR _ _ _ _ := rx; generalize a.eval x = q at rx; cases rx; rfl
    split at hs
    · rename_i hn
      simp at hs
      obtain ⟨rfl, rfl, rfl⟩ := hs
      subst hn
      obtain ⟨rfl, rfl⟩ := zero rfl
      rw [← hh, ← hc]
      exact OpOk.pure hW (x := .slice none 0 0) (run_app ho (by rw [ex]; exact hsrc.none _ _ rfl rfl)) VR.nilS
    · rename_i hn
      split at hs
      · rename_i hfit
        simp at hs
        obtain ⟨rfl, rfl, rfl⟩ := hs
        rw [← hh, ← hc]
        exact empty none ex hn hfit
      · simp at hs
  · obtain ⟨ad, ex⟩ : ∃ ad, a.eval x = .slice (some ad) 0 0 := by have rx : VR _ _ _ _ := rx; generalize a.eval x = q at rx; cases rx; exact ⟨_, rfl⟩
    split at hs
    · rename_i hn
      simp at hs
      obtain ⟨rfl, rfl, rfl⟩ := hs
      subst hn
      obtain ⟨rfl, rfl⟩ := zero rfl
      rw [← hh, ← hc]
      exact OpOk.pure hW (x := .slice (some ad) 0 0) (run_app ho (by rw [ex]; exact hsrc.none _ _ rfl rfl)) (VR.emp ad)
    · rename_i hn
      split at hs
      · rename_i hfit
        simp at hs
        obtain ⟨rfl, rfl, rfl⟩ := hs
        rw [← hh, ← hc]
        exact empty (some ad) ex hn hfit
      · simp at hs
  · rename_i b g off sz' len
    split at hs
    · rename_i cs hrow
      split at hs
      · rename_i hcond
        obtain ⟨hsz', hlen, hfit1, hfit2⟩ := hcond
        subst hsz'
        simp at hs
        obtain ⟨rfl, rfl, rfl⟩ := hs
        rw [← hh] at hrow
        rw [← hh, ← hc]
        obtain ⟨hget, hcur⟩ := Heap.row_eq hrow
        obtain ⟨ad, cap, olds, ex, hcap, hol, rold, hcell⟩ := sl_view hW rx hrow hlen
        obtain ⟨q1, q2, q3⟩ := rx
        obtain ⟨q4, q5⟩ := q3 hcur
        by_cases hroom : len + n ≤ cap
        · rcases q5 with ⟨cap2, q5, q6⟩ | ⟨q5, ad2, q6⟩
          · have hcc : cap2 = cap := by rw [q5] at ex; injection ex
            subst hcc
            exact app_room hW ho hu hi hget q4 q5 q6 hlen hsrc rnew hroom hfit1
          · subst q5
            have hc0 : 0 = cap := by rw [q6] at ex; injection ex
            subst hc0
            have hn0 : n = 0 := by omega
            subst hn0
            obtain ⟨rfl, rfl⟩ := zero rfl
            obtain ⟨⟨cc, e0, fr, r1, r2, r3, r4⟩, hgen, _⟩ := hW.blk b _ hget
            let E' : Env := { h := E.h.set b (.cells E.ct (cs.take (off + 0 * i.size) ++ [])), m := E.m, ct := E.ct + 1, w := E.w }
            have hP : Put X E E' b (.cells E.ct (cs.take (off + 0 * i.size) ++ [])) (E.m b).1 :=
              { h := rfl, ct := Nat.le_succ _, gen := Nat.lt_succ_self _, m := fun _ _ => rfl, size := Nat.le_refl _, heap := fun k _ hk => rfl, c0 := .inr ⟨by simp [hget], rfl⟩,
                at_ := .inr ⟨by simp [hget], rfl⟩, old := fun h => by simp [Blk.gen] at h, os := rfl, tape := rfl, output := rfl }
            have hE := hP.ext hW
            have hB : BR X E' b (.cells E.ct (cs.take (off + 0 * i.size) ++ [])) := by
              refine ⟨cc, e0, fr, r1, r2, by simp [E']; omega, fun k x hk hx => ?_⟩
              rw [List.append_nil] at hx
              show ∃ v, cc[k - (E.m b).2]? = some v ∧ CC X E' x v
              rw [List.getElem?_take] at hx
              split at hx
              · obtain ⟨v, hv, hr⟩ := r4 k x hk hx
                exact ⟨v, hv, hr.ext hE⟩
              · simp at hx
            exact OpOk.put (x := .slice (some ad2) 0 0) hW hP (run_app ho (by rw [q6]; exact hsrc.none _ _ rfl rfl)) hB
              ⟨rfl, Nat.lt_succ_self _, fun _ => ⟨q4, .inr ⟨rfl, ad2, rfl⟩⟩⟩
        · have hcell2 : ∀ (j : Nat) (v : Value), olds[j]? = some v → E.w.drew.cell? (ad.add j) = some v := by simpa using hcell
          refine app_grow hW ho hu hi hz hzs ex (run_firstCells_some (P := P) E.w.drew i.size len ad len cap olds hol hcell2) hol hsrc (by omega) hfit1 hfit2 b off (by simp; omega) ?_
          rw [List.drop_append_of_le_length (by simp; omega)]
          refine All2.append ?_ rnew
          rw [List.drop_take]
          have : off + len * i.size - off = len * i.size := by omega
          rw [this]
          exact rold
      · simp at hs
    · simp at hs
  · simp at hs

theorem op_app (hW : WR X E) (hT : TR X E s a) (hh : E.h = s.hp) (hc : E.ct = s.ct) {t tx sz bytes : Nat} {str : Bool} {x y : Operand} {x' y' : Opd}
    (ho : o.op = .call { callee := .builtin .append, args := #[x, y], argTypes := #[t, tx] })
    (hx : okOpd x x' = true) (hy : okOpd y y' = true) (ht : appT P t sz bytes = true) (htx : srcT P tx str = true)
    (hs : step G s d (.app sz bytes str x' y') = some (v, h', c')) : OpOk P X E o a.eval v h' c' := by
  have rx := ev_sound hT hx
  have ry := ev_sound hT hy
  obtain ⟨e, i, z, hu, hi, hsz, hby, hz, hzs⟩ := appT_eq ht
  simp only [step] at hs
  split at hs
  · rename_i ca cb e1 e2
    rw [e1] at rx; rw [e2] at ry
    split at hs
    · rename_i new n e3
      rw [← hh] at e3
      obtain ⟨news, hsrc, rnew⟩ := src_sound2 hW htx (b := cb) ry e3
      subst hsz; subst hby
      exact appTo_sound hW hh hc ho hu hi hz hzs rx (hsrc.toA hu hi hz) rnew hs
    · simp at hs
  · simp at hs

end
end Go.Abs
