/-
  The abstract machine beside Go's model: maps whose keys are one plain cell.
-/
import Derived.Test.YtcbepglkfglclaaDoorHAbsI
import Derived.MapKept
namespace Go.Abs
open Go.RowKit

section
variable {P : Program} {X : Cx} {E : Env} {s : St} {a : Act} {o : Oper} {d : Nat} {v : AV} {h' : Heap} {c' : Nat} {G : Nat → List IV}

/-- A key's type is of a kind. -/
def keyD : TypeDesc → Nat → Bool
  | .int _, 0 => true
  | .string, 1 => true
  | .bool, 2 => true
  | _, _ => false
/-- A map's type: its keys are of a kind. -/
def mapT (P : Program) (t kt : Nat) : Bool := match P.underlying t with
  | some (.map k _) => match P.underlying k with
    | some d => keyD d kt
    | none => false
  | _ => false
theorem mapT_eq {t kt : Nat} (h : mapT P t kt = true) : ∃ k e d, P.underlying t = some (.map k e) ∧ P.underlying k = some d ∧ keyD d kt = true := by
  unfold mapT at h
  split at h
  · rename_i k e hk
    split at h
    · rename_i d hd; exact ⟨k, e, d, hk, hd, h⟩
    · simp at h
  · simp at h
/-- A map's element's zero value is one constant. -/
def mapZ (P : Program) (t : Nat) (zero : List IV) (agg : Bool) : Bool := match P.underlying t, zero, agg with
  | some (.map _ e), [x], false => match P.info? e with
    | some i => match i.zero with
      | some z => constIV z x
      | none => false
    | none => false
  | _, _, _ => false
theorem mapZ_eq {t : Nat} {zero : List IV} {agg : Bool} (h : mapZ P t zero agg = true) : ∃ k e x i z, P.underlying t = some (.map k e) ∧ zero = [x] ∧ agg = false ∧ P.info? e = some i ∧ i.zero = some z ∧ constIV z x = true := by
  unfold mapZ at h
  split at h
  · rename_i k e x hk
    split at h
    · rename_i i hi
      split at h
      · rename_i z hz; exact ⟨k, e, x, i, z, hk, rfl, rfl, hi, hz, h⟩
      · simp at h
    · simp at h
  · simp at h

/-- A key and its value. -/
inductive KeyR : Nat → A1 → Value → Prop
  | int (k : IntKind) (n : Int) : KeyR 0 (.c (.r (.i (.int k n)))) (.int k n)
  | str (l : List UInt8) (s : ByteArray) : s.data.toList = l → KeyR 1 (.c (.r (.i (.str l)))) (.string s)
  | bool (b : Bool) : KeyR 2 (.c (.r (.i (.bool b)))) (.bool b)
theorem key_sound {av : AV} {x : Value} {kt : Nat} {k : A1} (r : AVR X E av x) (e : plainKey kt av = some k) : KeyR kt k x := by
  unfold plainKey at e
  split at e
  · split at e
    · rename_i h; subst h; simp at e; subst e; have r2 : VR _ _ _ _ := r; cases r2; exact .int _ _
    · simp at e
  · split at e
    · rename_i h; subst h; simp at e; subst e; have r2 : VR _ _ _ _ := r; cases r2; rename_i h; exact .str _ _ h
    · simp at e
  · split at e
    · rename_i h; subst h; simp at e; subst e; have r2 : VR _ _ _ _ := r; cases r2; exact .bool _
    · simp at e
  · simp at e
theorem KeyR.a1 {kt : Nat} {k : A1} {x : Value} (h : KeyR kt k x) : A1R X E k x := by
  cases h with
  | int => exact VR.int _ _
  | str _ _ h => exact VR.str _ _ h
  | bool => exact VR.bool _
/-- Is it the key? -/
theorem KeyR.same {kt : Nat} {k : A1} {x : Value} (h : KeyR kt k x) {d : TypeDesc} (hd : keyD d kt = true) {k' : A1} {y : Value} (r : A1R X E k' y) {b : Bool} (e : eqKey k k' = some b) :
    Instr.sameNow d x y = some b ∧ (b = true → Instr.sameBits 10000 y x = true) := by
  have e9 : (10000 : Nat) = 9999 + 1 := rfl
  cases k' with
  | agg l => cases h <;> simp [eqKey] at e
  | c c' =>
    cases h with
    | int kk n =>
      simp only [eqKey] at e
      unfold eqCell at e
      split at e
      · rename_i k1 n1 k2 n2 h1
        simp at h1; obtain ⟨rfl, rfl⟩ := h1
        split at e
        · rename_i hk; subst hk
          simp at e
          have r2 : VR _ _ _ _ := r
          cases r2
          cases d <;> simp [keyD] at hd
          refine ⟨by simp [Instr.sameNow, e], fun hb => ?_⟩
          subst hb
          have : n = n2 := by simpa using e
          rw [e9]; simp [Instr.sameBits, this]
        · simp at e
      · rename_i h1; simp at h1
      · rename_i h1; simp at h1
      · simp at e
    | str l z hz =>
      simp only [eqKey] at e
      unfold eqCell at e
      split at e
      · rename_i h1; simp at h1
      · rename_i l1 l2 h1
        simp at h1; subst h1
        simp at e
        have r2 : VR _ _ _ _ := r
        cases r2 with
        | str _ z2 hz2 =>
          cases d <;> simp [keyD] at hd
          have key : (z == z2) = (l == l2) := by
            subst hz; subst hz2
            rw [Bool.eq_iff_iff, MapKept.bytes_beq, beq_iff_eq]
            exact ⟨fun h => by rw [h], fun h => by cases z; cases z2; simp at h; simp [h]⟩
          refine ⟨by show some (z == z2) = _; rw [key, ← e], fun hb => ?_⟩
          subst hb
          have hl : l = l2 := by simpa using e
          have hzz : z2 = z := by
            subst hz; subst hz2
            cases z; cases z2; simp at hl; simp [hl]
          rw [e9]; simp only [Instr.sameBits, hzz]; exact (MapKept.bytes_beq _ _).2 rfl
      · rename_i h1; simp at h1
      · simp at e
    | bool b1 =>
      simp only [eqKey] at e
      unfold eqCell at e
      split at e
      · rename_i h1; simp at h1
      · rename_i h1; simp at h1
      · rename_i b2 b3 h1
        simp at h1; subst h1
        simp at e
        have r2 : VR _ _ _ _ := r
        cases r2
        cases d <;> simp [keyD] at hd
        refine ⟨by simp [Instr.sameNow, e], fun hb => ?_⟩
        subst hb
        have : b1 = b3 := by simpa using e
        rw [e9]; simp [Instr.sameBits, this]
      · simp at e

/-- No entry has the key. -/
theorem find_none {kt : Nat} {k : A1} {x : Value} (h : KeyR kt k x) {d : TypeDesc} (hd : keyD d kt = true) {es : List Ent} {ces : List MapEntry} (r : All2 (EntR X E) es ces) (e : findEnt k es = some none) :
    ∀ i, Instr.findNow d x ces i = some none := by
  induction r with
  | nil => intro i; rfl
  | cons r1 _ ih =>
    rename_i en c l m _
    intro i
    simp only [findEnt] at e
    split at e
    · simp at e
    · rename_i hq
      have := (h.same hd r1.key hq).1
      simp only [Instr.findNow, this, ih e]
    · simp at e
/-- An entry has the key. -/
theorem find_some {kt : Nat} {k : A1} {x : Value} (h : KeyR kt k x) {d : TypeDesc} (hd : keyD d kt = true) {es : List Ent} {ces : List MapEntry} (r : All2 (EntR X E) es ces) {w : A1} (e : findEnt k es = some (some w)) :
    ∃ (j : Nat) (c : MapEntry) (en : Ent), ces[j]? = some c ∧ (∀ i, Instr.findNow d x ces i = some (some (i + j, c.val))) ∧ A1R X E w c.val ∧ Instr.sameBits 10000 c.key x = true ∧
      es.find? (fun e => eqKey k e.key == some true) = some en ∧ c.born = en.born ∧ (∀ (v : A1) (vv : Value), A1R X E v vv → All2 (EntR X E) (setEnt k v es) (ces.modify j fun e => { e with key := x, val := vv })) := by
  induction r with
  | nil => simp [findEnt] at e
  | cons r1 r2 ih =>
    rename_i en c l m
    simp only [findEnt] at e
    split at e
    · rename_i hq
      simp at e; subst e
      obtain ⟨h1, h2⟩ := h.same hd r1.key hq
      refine ⟨0, c, en, rfl, fun i => by simp [Instr.findNow, h1], r1.val, h2 rfl, by simp [List.find?, hq], r1.born, fun v vv hv => ?_⟩
      simp only [setEnt, hq]
      exact .cons ⟨h.a1, hv, r1.born⟩ r2
    · rename_i hq
      obtain ⟨h1, _⟩ := h.same hd r1.key hq
      obtain ⟨j, c', en', q1, q2, q3, q4, q5, q6, q7⟩ := ih e
      refine ⟨j + 1, c', en', by simpa using q1, fun i => ?_, q3, q4, by simp [List.find?, hq, q5], q6, fun v vv hv => ?_⟩
      · simp only [Instr.findNow, h1, q2]
        congr 3; omega
      · simp only [setEnt, hq]
        exact .cons r1 (q7 v vv hv)
    · simp at e
theorem born_some {es : List Ent} {ces : List MapEntry} (r : All2 (EntR X E) es ces) {n : Nat} {v : A1} {vv : Value} (hv : A1R X E v vv) {es' : List Ent} (e : setBorn n v es = some es') :
    ∃ j, ces.findIdx? (fun e => (e.born : Int) == (n : Int)) = some j ∧ All2 (EntR X E) es' (ces.modify j fun e => { e with val := vv }) := by
  induction r generalizing es' with
  | nil => simp [setBorn] at e
  | cons r1 r2 ih =>
    rename_i en c l m
    simp only [setBorn] at e
    have hb := r1.born
    split at e
    · rename_i hq
      simp at e; subst e
      refine ⟨0, by simp [List.findIdx?_cons, hb, hq], .cons ⟨r1.key, hv, r1.born⟩ r2⟩
    · rename_i hq
      cases hs : setBorn n v l with
      | none => simp [hs] at e
      | some l' =>
        simp [hs] at e; subst e
        obtain ⟨j, q1, q2⟩ := ih hs
        have hne : ¬ (c.born : Int) = (n : Int) := by rw [hb]; omega
        refine ⟨j + 1, by simp [List.findIdx?_cons, hne, q1], .cons r1 q2⟩

/-- A map is written. -/
theorem put_map (hW : WR X E) {b g : Nat} {es es' : List Ent} {k k' : Nat} (hm : E.h.mapAt b g = some (es, k)) {ces' : Array MapEntry} (r : All2 (EntR X E) es' ces'.toList) :
    ∃ E', E'.w = { E.w with heap := E.w.heap.setIfInBounds (E.m b).1 (.map ces' k') } ∧ E'.ct = E.ct ∧ Put X E E' b (.map g es' k') (E.m b).1 ∧ BR X E' b (.map g es' k') ∧ Ext X E E' := by
  obtain ⟨hget, hcur⟩ := Heap.mapAt_eq hm
  obtain ⟨⟨ces, hces, _⟩, hgen, _⟩ := hW.blk b _ hget
  have hlt := (Array.getElem?_eq_some_iff.1 hces).1
  have hP : Put X E { E with h := E.h.set b (.map g es' k'), w := { E.w with heap := E.w.heap.setIfInBounds (E.m b).1 (.map ces' k') } } b (.map g es' k') (E.m b).1 :=
    { h := rfl, ct := Nat.le_refl _, gen := hgen, m := fun _ _ => rfl, size := by simp, heap := fun c hc hn => by simp [Ne.symm hn], c0 := .inr ⟨by simp [hget], rfl⟩, at_ := .inr ⟨by simp [hget], rfl⟩,
      old := fun _ => ⟨hcur, rfl, fun cc e fr h => by rw [hces] at h; simp at h⟩, os := rfl, tape := rfl, output := rfl }
  have hE := hP.ext hW
  exact ⟨{ E with h := E.h.set b (.map g es' k'), w := { E.w with heap := E.w.heap.setIfInBounds (E.m b).1 (.map ces' k') } }, rfl, rfl, hP, ⟨ces', by simp [hlt], r.mono fun _ _ q => q.ext hE⟩, hE⟩

theorem KeyR.check {kt : Nat} {k : A1} {x : Value} (h : KeyR kt k x) {t : Nat} {dd : TypeDesc} (hu : P.underlying t = some dd) (hd : keyD dd kt = true) (b : Bool) (n : Nat) (w : World) : (Instr.checkKey b (n + 1) t x).run P w = .ok () w := by
  unfold Instr.checkKey
  simp only [Sem.run_bind, run_underlying hu, Result.andThen]
  cases h <;> cases dd <;> simp_all [keyD]

theorem op_mkmap (hW : WR X E) (hh : E.h = s.hp) (hc : E.ct = s.ct) {t : Nat} (ho : o.op = .makeMap t none) (hs : step G s d .mkmap = some (v, h', c')) : OpOk P X E o a.eval v h' c' := by
  simp only [step] at hs
  simp at hs
  obtain ⟨rfl, rfl, rfl⟩ := hs
  have hP := Put.new X E d (.map E.ct [] 0) (E.w.alloc (.map #[] 0)) rfl (by simp) (fun k hk => by show (E.w.heap.push _)[k]? = _; rw [Array.getElem?_push, if_neg (by omega)]) rfl rfl rfl
  have hB : BR X (E.new d (.map E.ct [] 0) (E.w.alloc (.map #[] 0))) d (.map E.ct [] 0) := by
    refine ⟨#[], ?_, .nil⟩
    show (E.w.heap.push _)[(if d = d then (E.w.heap.size, 0) else E.m d).1]? = _
    simp
  rw [← hh, ← hc]
  refine OpOk.put hW hP (x := .map (some E.w.heap.size)) (by simp [execOp, ho, Instr.makeMap, newObj, Env.new, Sem.run]) hB ?_
  exact ⟨rfl, Nat.lt_succ_self _, fun _ => by simp [Env.new]⟩

theorem op_lkp (hW : WR X E) (hT : TR X E s a) (hh : E.h = s.hp) (hc : E.ct = s.ct) {t kt : Nat} {zero : List IV} {agg ok : Bool} {m k : Operand} {m' k' : Opd} (ho : o.op = .lookup t m k ok)
    (hm : okOpd m m' = true) (hk : okOpd k k' = true) (ht : mapT P t kt = true) (hz : mapZ P t zero agg = true) (hs : step G s d (.lkp kt zero agg ok m' k') = some (v, h', c')) : OpOk P X E o a.eval v h' c' := by
  have rm := ev_sound hT hm
  have rk := ev_sound hT hk
  obtain ⟨kty, ety, dd, hu, hku, hkd⟩ := mapT_eq ht
  obtain ⟨kty2, ety2, x0, i0, z0, hu2, rfl, rfl, hi, hz0, hcz⟩ := mapZ_eq hz
  rw [hu] at hu2
  simp at hu2
  obtain ⟨rfl, rfl⟩ := hu2
  have rz : A1R X E (.c (I x0)) z0 := constIV_sound hcz
  have fin : ∀ (av : A1) (val : Value) (b : Bool), A1R X E av val → AVR X E (if ok then .tup [av, .c (I (.bool b))] else .v av) (if ok then .tuple #[val, .bool b] else val) := by
    intro av val b r
    cases ok with
    | true => exact ⟨[val, .bool b], rfl, .cons r (.cons (VR.bool b) .nil)⟩
    | false => exact r
  simp only [step] at hs
  split at hs
  · rename_i b g kk e1 e2
    split at hs
    · rename_i es clk hmap
      rw [← hh] at hmap
      obtain ⟨hget, hcur⟩ := Heap.mapAt_eq hmap
      obtain ⟨⟨ces, r1, r2⟩, _, _⟩ := hW.blk b _ hget
      rw [e1] at rm
      obtain ⟨_, _, q3⟩ := rm
      have q3 := q3 hcur
      have hkr := key_sound rk e2
      have hck := hkr.check (P := P) hku hkd ces.isEmpty 9999 E.w
      split at hs
      · rename_i r hf
        cases r with
        | none =>
          simp [mk1] at hs
          obtain ⟨rfl, rfl, rfl⟩ := hs
          have hfk := MapKept.run_findKey (P := P) (w := E.w) (k := a.eval k) hku (find_none hkr hkd r2 hf 0)
          rw [← hh, ← hc]
          refine OpOk.pure hW (x := if ok then .tuple #[z0, .bool false] else z0) ?_ (by have := fin _ _ false rz; simpa using this)
          simp [execOp, ho, Instr.lookup, run_underlying hu, q3, MapKept.run_getObj_map r1, hck, hfk, zeroValue, typeInfo, hi, hz0]
        | some w =>
          simp at hs
          obtain ⟨rfl, rfl, rfl⟩ := hs
          obtain ⟨j, c, en, p1, p2, p3, _, _, _, _⟩ := find_some hkr hkd r2 hf
          have hfk := MapKept.run_findKey (P := P) (w := E.w) (k := a.eval k) hku (p2 0)
          rw [← hh, ← hc]
          refine OpOk.pure hW (x := if ok then .tuple #[c.val, .bool true] else c.val) ?_ (by have := fin _ _ true p3; simpa using this)
          simp [execOp, ho, Instr.lookup, run_underlying hu, q3, MapKept.run_getObj_map r1, hck, hfk]
      · simp at hs
    · simp at hs
  · rename_i kk e1 e2
    rw [e1] at rm
    have rm2 : VR _ _ _ _ := rm
    generalize hq : a.eval m = q at rm2
    cases rm2
    have hkr := key_sound rk e2
    have hck := hkr.check (P := P) hku hkd true 9999 E.w
    have hfk := MapKept.run_findKey (P := P) (w := E.w) (k := a.eval k) (l := []) hku rfl
    simp [mk1] at hs
    obtain ⟨rfl, rfl, rfl⟩ := hs
    rw [← hh, ← hc]
    refine OpOk.pure hW (x := if ok then .tuple #[z0, .bool false] else z0) ?_ (by have := fin _ _ false rz; simpa using this)
    simp [execOp, ho, Instr.lookup, run_underlying hu, hq, hck, hfk, zeroValue, typeInfo, hi, hz0]
  · simp at hs

theorem op_mupd (hW : WR X E) (hT : TR X E s a) (hh : E.h = s.hp) (hc : E.ct = s.ct) {t kt : Nat} {m k y : Operand} {m' k' y' : Opd} (ho : o.op = .mapUpdate t m k y)
    (hm : okOpd m m' = true) (hk : okOpd k k' = true) (hy : okOpd y y' = true) (ht : mapT P t kt = true) (hs : step G s d (.mupd kt m' k' y') = some (v, h', c')) : OpOk P X E o a.eval v h' c' := by
  have rm := ev_sound hT hm
  have rk := ev_sound hT hk
  have ry := ev_sound hT hy
  obtain ⟨kty, ety, dd, hu, hku, hkd⟩ := mapT_eq ht
  simp only [step] at hs
  split at hs
  · rename_i b g kk w e1 e2 e3
    split at hs
    · rename_i es clk hmap
      rw [← hh] at hmap
      obtain ⟨hget, hcur⟩ := Heap.mapAt_eq hmap
      obtain ⟨⟨ces, r1, r2⟩, _, _⟩ := hW.blk b _ hget
      rw [e1] at rm
      obtain ⟨_, _, q3⟩ := rm
      have q3 := q3 hcur
      rw [e3] at ry
      have ry : A1R X E w (a.eval y) := ry
      have hkr := key_sound rk e2
      have hck := hkr.check (P := P) hku hkd false 9999 E.w
      split at hs
      · rename_i w0 hf
        simp at hs
        obtain ⟨rfl, rfl, rfl⟩ := hs
        obtain ⟨j, c, en, p1, p2, p3, p4, _, _, p7⟩ := find_some hkr hkd r2 hf
        have hfk := MapKept.run_findKey (P := P) (w := E.w) (k := a.eval k) hku (p2 0)
        obtain ⟨E', f1, f2, f3, f4, _⟩ := put_map hW (k' := clk) hmap (ces' := ces.modify j fun e => { e with key := a.eval k, val := a.eval y }) (by simpa using p7 w _ ry)
        rw [← hc, ← f2, ← hh]
        refine OpOk.putU hW f3 ?_ f4
        have p1' : ces[j]? = some c := by simpa using p1
        simp [execOp, ho, Instr.mapUpdate, run_underlying hu, q3, MapKept.run_getObj_map r1, hck, hfk, p1', Instr.keyThatStays, p4, MapKept.run_setObj_map _ r1, f1]
      · rename_i hf
        simp at hs
        obtain ⟨rfl, rfl, rfl⟩ := hs
        have hfk := MapKept.run_findKey (P := P) (w := E.w) (k := a.eval k) hku (find_none hkr hkd r2 hf 0)
        obtain ⟨E', f1, f2, f3, f4, _⟩ := put_map hW (es' := es ++ [⟨kk, w, clk⟩]) (k' := clk + 1) hmap (ces' := ces.push { key := a.eval k, val := a.eval y, born := clk }) (by simpa using r2.append (.cons ⟨hkr.a1, ry, rfl⟩ .nil))
        rw [← hc, ← f2, ← hh]
        refine OpOk.putU hW f3 ?_ f4
        simp [execOp, ho, Instr.mapUpdate, run_underlying hu, q3, MapKept.run_getObj_map r1, hck, hfk, MapKept.run_setObj_map _ r1, f1]
      · simp at hs
    · simp at hs
  · simp at hs

theorem op_ment (hW : WR X E) (hT : TR X E s a) (hh : E.h = s.hp) (hc : E.ct = s.ct) {t kt : Nat} {zero : List IV} {agg : Bool} {m k : Operand} {m' k' : Opd} (ho : o.op = .mapEntry t m k)
    (hm : okOpd m m' = true) (hk : okOpd k k' = true) (ht : mapT P t kt = true) (hz : mapZ P t zero agg = true) (hs : step G s d (.ment kt zero agg m' k') = some (v, h', c')) : OpOk P X E o a.eval v h' c' := by
  have rm := ev_sound hT hm
  have rk := ev_sound hT hk
  obtain ⟨kty, ety, dd, hu, hku, hkd⟩ := mapT_eq ht
  obtain ⟨kty2, ety2, x0, i0, z0, hu2, rfl, rfl, hi, hz0, hcz⟩ := mapZ_eq hz
  rw [hu] at hu2
  simp at hu2
  obtain ⟨rfl, rfl⟩ := hu2
  have rz : A1R X E (.c (I x0)) z0 := constIV_sound hcz
  simp only [step] at hs
  split at hs
  · rename_i b g kk e1 e2
    split at hs
    · rename_i es clk hmap
      rw [← hh] at hmap
      obtain ⟨hget, hcur⟩ := Heap.mapAt_eq hmap
      obtain ⟨⟨ces, r1, r2⟩, _, _⟩ := hW.blk b _ hget
      rw [e1] at rm
      obtain ⟨_, _, q3⟩ := rm
      have q3 := q3 hcur
      have hkr := key_sound rk e2
      have hck := hkr.check (P := P) hku hkd false 9999 E.w
      split at hs
      · rename_i w0 en0 hf hfe
        simp at hs
        obtain ⟨rfl, rfl, rfl⟩ := hs
        obtain ⟨j, c, en, p1, p2, p3, p4, p5, p6, p7⟩ := find_some hkr hkd r2 hf
        rw [p5] at hfe
        obtain rfl := Option.some.inj hfe
        have hfk := MapKept.run_findKey (P := P) (w := E.w) (k := a.eval k) hku (p2 0)
        have p1' : ces[j]? = some c := by simpa using p1
        have hmod : (ces.modify j fun e => { e with key := a.eval k }) = ces.modify j fun e => { e with key := a.eval k, val := c.val } := by
          apply Array.ext (by simp)
          intro i hi1 hi2
          simp only [Array.getElem_modify]
          split
          · rename_i hji
            subst hji
            obtain ⟨hj, this⟩ := Array.getElem?_eq_some_iff.1 p1'
            rw [this]
          · rfl
        obtain ⟨E', f1, f2, f3, f4, f5⟩ := put_map hW (k' := clk) hmap (ces' := ces.modify j fun e => { e with key := a.eval k, val := c.val }) (by simpa using p7 w0 _ p3)
        rw [← hc, ← f2, ← hh]
        refine OpOk.put hW f3 (x := .tuple #[c.val, .int .i64 c.born]) ?_ f4 ⟨[c.val, .int .i64 c.born], rfl, .cons (p3.ext f5) (.cons (by rw [p6]; exact VR.int _ _) .nil)⟩
        simp [execOp, ho, Instr.mapEntry, run_underlying hu, q3, MapKept.run_getObj_map r1, hck, hfk, p1', Instr.keyThatStays, p4, MapKept.run_setObj_map _ r1, f1, hmod, goInt]
      · rename_i hf
        simp [mk1] at hs
        obtain ⟨rfl, rfl, rfl⟩ := hs
        have hfk := MapKept.run_findKey (P := P) (w := E.w) (k := a.eval k) hku (find_none hkr hkd r2 hf 0)
        obtain ⟨E', f1, f2, f3, f4, f5⟩ := put_map hW (es' := es ++ [⟨kk, .c (I x0), clk⟩]) (k' := clk + 1) hmap (ces' := ces.push { key := a.eval k, val := z0, born := clk }) (by simpa using r2.append (.cons ⟨hkr.a1, rz, rfl⟩ .nil))
        rw [← hc, ← f2, ← hh]
        refine OpOk.put hW f3 (x := .tuple #[z0, .int .i64 clk]) ?_ f4 ⟨[z0, .int .i64 clk], rfl, .cons (rz.ext f5) (.cons (VR.int _ _) .nil)⟩
        simp [execOp, ho, Instr.mapEntry, run_underlying hu, q3, MapKept.run_getObj_map r1, hck, hfk, MapKept.run_setObj_map _ r1, f1, zeroValue, typeInfo, hi, hz0, goInt]
      · simp at hs
    · simp at hs
  · simp at hs

theorem op_ests (hW : WR X E) (hT : TR X E s a) (hh : E.h = s.hp) (hc : E.ct = s.ct) {t : Nat} {m k y : Operand} {m' k' y' : Opd} (ho : o.op = .entryStore t m k y)
    (hm : okOpd m m' = true) (hk : okOpd k k' = true) (hy : okOpd y y' = true) (hs : step G s d (.ests m' k' y') = some (v, h', c')) : OpOk P X E o a.eval v h' c' := by
  have rm := ev_sound hT hm
  have rk := ev_sound hT hk
  have ry := ev_sound hT hy
  simp only [step] at hs
  split at hs
  · rename_i b g n w e1 e2 e3
    split at hs
    · rename_i es clk hmap
      rw [← hh] at hmap
      obtain ⟨hget, hcur⟩ := Heap.mapAt_eq hmap
      obtain ⟨⟨ces, r1, r2⟩, _, _⟩ := hW.blk b _ hget
      rw [e1] at rm
      obtain ⟨_, _, q3⟩ := rm
      have q3 := q3 hcur
      rw [e3] at ry
      have ry : A1R X E w (a.eval y) := ry
      obtain ⟨kk, hn⟩ := nat_sound rk e2
      split at hs
      · rename_i es' hb
        simp at hs
        obtain ⟨rfl, rfl, rfl⟩ := hs
        obtain ⟨j, p1, p2⟩ := born_some r2 ry hb
        obtain ⟨E', f1, f2, f3, f4, _⟩ := put_map hW (k' := clk) hmap (ces' := ces.modify j fun e => { e with val := a.eval y }) (by simpa using p2)
        rw [← hc, ← f2, ← hh]
        refine OpOk.putU hW f3 ?_ f4
        have p1' : ces.findIdx? (fun e => (e.born : Int) == (n : Int)) = some j := by
          have h9 := List.findIdx?_toArray (p := fun e : MapEntry => (e.born : Int) == (n : Int)) (l := ces.toList)
          rw [Array.toArray_toList] at h9
          rw [h9]; exact p1
        simp [execOp, ho, Instr.entryStore, q3, MapKept.run_getObj_map r1, hn, asInt, asIntOf, p1', MapKept.run_setObj_map _ r1, f1]
      · simp at hs
    · simp at hs
  · simp at hs
end
end Go.Abs
