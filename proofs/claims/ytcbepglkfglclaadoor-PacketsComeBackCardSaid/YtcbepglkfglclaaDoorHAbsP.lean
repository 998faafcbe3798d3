/-
  The abstract machine beside Go's model: a region that draws its order comes to what the text's order comes to.
-/
import Derived.Test.YtcbepglkfglclaaDoorHAbsO1
namespace Go.Abs
open Go.RowKit

structure Draw (l : List Ins) (pre : List (List Nat)) : Prop where
  op : ∀ (i : Nat) (x : Ins), l[i]? = some x → ∃ d g k, x = .op d g k
  dst : ∀ (i j : Nat) (x y : Ins) (t : Nat), l[i]? = some x → l[j]? = some y → x.dst = some t → y.dst = some t → i = j
  rw_ : ∀ (i j : Nat) (x y : Ins) (t : Nat), l[i]? = some x → l[j]? = some y → x.dst = some t → t ∈ y.reads → i ≠ j → preHas pre i j = true ∨ preHas pre j i = true
  tt : ∀ (i j : Nat), turnAt l i = true → turnAt l j = true → i ≠ j → preHas pre i j = true ∨ preHas pre j i = true
  lt : ∀ i j : Nat, preHas pre i j = true → j < i

theorem Draw.of {l : List Ins} {pre : List (List Nat)} (h : drawStatic l pre = true) : Draw l pre := by
  simp only [drawStatic, Bool.and_eq_true, List.all_eq_true, beq_iff_eq, List.mem_range] at h
  obtain ⟨⟨⟨h1, h2⟩, h3⟩, h4⟩ := h
  have pair : ∀ (i j : Nat) (x y : Ins), l[i]? = some x → l[j]? = some y → i ≠ j →
      (x.dst.isNone = true ∨ x.dst ≠ y.dst) ∧ (preHas pre i j = true ∨ preHas pre j i = true ∨ ((∀ t, x.dst = some t → t ∉ y.reads) ∧ (∀ t, y.dst = some t → t ∉ x.reads) ∧ ¬ (x.turns = true ∧ y.turns = true))) := by
    have one : ∀ (i j : Nat) (x y : Ins), l[i]? = some x → l[j]? = some y → j < i →
      (x.dst.isNone = true ∨ x.dst ≠ y.dst) ∧ (preHas pre i j = true ∨ preHas pre j i = true ∨ ((∀ t, x.dst = some t → t ∉ y.reads) ∧ (∀ t, y.dst = some t → t ∉ x.reads) ∧ ¬ (x.turns = true ∧ y.turns = true))) := by
      intro i j x y hx hy hlt
      have hp := h3 i (List.getElem?_eq_some_iff.1 hx).1 j hlt
      simp only [pairOk, hx, hy, Bool.and_eq_true, Bool.or_eq_true, bne_iff_ne] at hp
      refine ⟨hp.1, ?_⟩
      rcases hp.2 with (h | h) | h
      · exact .inl h
      · exact .inr (.inl h)
      · refine .inr (.inr ⟨fun t ht hm => ?_, fun t ht hm => ?_, fun ⟨a, b⟩ => ?_⟩)
        · have := h.1.1; rw [ht] at this; simp [hm] at this
        · have := h.1.2; rw [ht] at this; simp [hm] at this
        · have := h.2; simp [a, b] at this
    intro i j x y hx hy hne
    rcases Nat.lt_or_ge j i with hlt | hge
    · exact one i j x y hx hy hlt
    · obtain ⟨h1, h2⟩ := one j i y x hy hx (by omega)
      refine ⟨?_, ?_⟩
      · cases hq : x.dst with
        | none => exact .inl rfl
        | some d =>
          refine .inr fun e => ?_
          rcases h1 with h1 | h1
          · rw [← e] at h1; simp at h1
          · exact h1 (by rw [← e, hq])
      · rcases h2 with h | h | ⟨a, b, c⟩
        · exact .inr (.inl h)
        · exact .inl h
        · exact .inr (.inr ⟨b, a, fun ⟨u, v⟩ => c ⟨v, u⟩⟩)
  refine ⟨fun i x hx => ?_, fun i j x y t hx hy h1 h2 => ?_, fun i j x y t hx hy h1 h2 hne => ?_, fun i j hi hj hne => ?_, fun i j h => ?_⟩
  · have := h1 x (List.mem_of_getElem? hx)
    cases x <;> simp [Ins.isOp] at this
    exact ⟨_, _, _, rfl⟩
  · rcases Nat.decEq i j with hne | he
    · rcases (pair i j x y hx hy hne).1 with h | h
      · rw [h1] at h; simp at h
      · exact absurd (h1.trans h2.symm) h
    · exact he
  · rcases (pair i j x y hx hy hne).2 with h | h | ⟨a, _, _⟩
    · exact .inl h
    · exact .inr h
    · exact absurd h2 (a t h1)
  · unfold turnAt at hi hj
    split at hi
    · rename_i x hx
      split at hj
      · rename_i y hy
        rcases (pair i j x y hx hy hne).2 with h | h | ⟨_, _, a⟩
        · exact .inl h
        · exact .inr h
        · exact absurd ⟨hi, hj⟩ a
      · simp at hj
    · simp at hi
  · unfold preHas at h
    split at h
    · rename_i p hp
      have := h4 (p, i) (by
        rw [List.mem_iff_getElem?]
        exact ⟨i, by simp [List.getElem?_zipIdx, hp]⟩)
      have := this j (by simpa using h)
      simpa using this
    · simp at h

def updS (S : Nat → Bool) (i : Nat) : Nat → Bool := fun j => S j || j == i

theorem countP_upd (S T : Nat → Bool) (i : Nat) (hS : S i = false) : ∀ n, (List.range n).countP (fun j => updS S i j && T j) = (List.range n).countP (fun j => S j && T j) + if i < n ∧ T i = true then 1 else 0
  | 0 => by simp
  | n + 1 => by
    rw [List.range_succ, List.countP_append, List.countP_append, countP_upd S T i hS n]
    simp only [List.countP_singleton]
    by_cases e : i = n
    · subst e
      simp [updS, hS]
    · have e2 : (n == i) = false := by simp; omega
      have e3 : (i < n + 1) ↔ (i < n) := by omega
      simp only [updS, e2, Bool.or_false, e3]
      omega

theorem cntS_upd {l : List Ins} {S : Nat → Bool} {i : Nat} (hS : S i = false) (hi : i < l.length) : cntS l (updS S i) = cntS l S + if turnAt l i = true then 1 else 0 := by
  rw [cntS, countP_upd S (turnAt l) i hS]
  simp [hi, cntS]

theorem cntS_congr {l : List Ins} {S T : Nat → Bool} (h : ∀ j, turnAt l j = true → S j = T j) : cntS l S = cntS l T := by
  unfold cntS
  apply List.countP_congr
  intro j _
  by_cases e : turnAt l j = true
  · rw [h j e]
  · simp [e]

theorem cntS_mono {l : List Ins} {S T : Nat → Bool} (h : ∀ j, turnAt l j = true → S j = true → T j = true) : cntS l S ≤ cntS l T := by
  unfold cntS
  apply List.countP_mono_left
  intro j _ hj
  simp at hj ⊢
  exact ⟨h j hj.2 hj.1, hj.2⟩

abbrev ltS (i : Nat) : Nat → Bool := fun j => decide (j < i)

section
variable {G : Nat → List IV} {R : Run}

structure Canon (G : Nat → List IV) (R : Run) (l : List Ins) (s0 : St) (ss : List St) (hs : List (Heap × Nat)) : Prop where
  at0 : ss[0]? = some s0
  step : ∀ (i : Nat) (x : Ins), l[i]? = some x → ∃ s s', ss[i]? = some s ∧ ss[i+1]? = some s' ∧ insI G R s x = some s'
  mem : ∀ (i : Nat) (s : St), i ≤ l.length → ss[i]? = some s → hs[cntS l (ltS i)]? = some (s.hp, s.ct)
  len : ss.length = l.length + 1

theorem cntS_cons (x : Ins) (l : List Ins) (i : Nat) : cntS (x :: l) (ltS (i + 1)) = cntS l (ltS i) + if x.turns = true then 1 else 0 := by
  have e : (List.range l.length).countP ((fun j => ltS (i + 1) j && turnAt (x :: l) j) ∘ Nat.succ) = (List.range l.length).countP (fun j => ltS i j && turnAt l j) := by
    apply List.countP_congr
    intro j _
    simp [turnAt, ltS]
  have f : (ltS (i + 1) 0 && turnAt (x :: l) 0) = x.turns := by simp [ltS, turnAt]
  unfold cntS
  rw [List.length_cons, List.range_succ_eq_map, List.countP_cons, List.countP_map, e, f]

theorem with_mem {s : St} {d : Option Nat} {r : AV × Heap × Nat} : (s.with d r).hp = r.2.1 ∧ (s.with d r).ct = r.2.2 := by
  cases d <;> simp [St.with, St.put]

theorem Canon.of : ∀ {l : List Ins} {s0 : St} {ss : List St} {hs : List (Heap × Nat)}, (∀ x ∈ l, x.isOp = true) → trail G R l s0 = some (ss, hs) → Canon G R l s0 ss hs
  | [], s0, ss, hs, _, h => by
    simp [trail] at h
    obtain ⟨rfl, rfl⟩ := h
    refine ⟨rfl, fun i x hx => by simp at hx, fun i s hi hs => ?_, rfl⟩
    simp at hi
    subst hi
    simp at hs
    subst hs
    simp [cntS]
  | x :: l, s0, ss, hs, hop, h => by
    simp only [trail] at h
    split at h
    · rename_i s1 hs1
      split at h
      · rename_i ss1 hh1 ht
        simp at h
        obtain ⟨rfl, rfl⟩ := h
        have ih := Canon.of (fun y hy => hop y (List.mem_cons_of_mem _ hy)) ht
        refine ⟨rfl, fun i y hy => ?_, fun i s hi hs => ?_, by simp [ih.len]⟩
        · cases i with
          | zero =>
            simp at hy
            subst hy
            exact ⟨s0, s1, rfl, by simpa using ih.at0, hs1⟩
          | succ i => exact ih.step i y (by simpa using hy)
        · cases i with
          | zero =>
            simp at hs
            subst hs
            have e : cntS (x :: l) (ltS 0) = 0 := by simp [cntS, ltS]
            rw [e]
            by_cases ht2 : x.turns = true
            · simp [ht2]
            · have m := ih.mem 0 s1 (Nat.zero_le _) ih.at0
              have e0 : cntS l (ltS 0) = 0 := by simp [cntS, ltS]
              rw [e0] at m
              simp only [ht2, Bool.false_eq_true, if_false]
              rw [m]
              have := hop x (List.mem_cons_self ..)
              cases x <;> simp [Ins.isOp] at this
              rename_i d g k
              simp only [insI] at hs1
              split at hs1
              · rename_i r hr
                simp at hs1
                subst hs1
                have hk : k.turns = false := by simpa [Ins.turns] using ht2
                have := insV_stays hk hr
                rw [with_mem.1, with_mem.2, this.1, this.2]
              · simp at hs1
          | succ i =>
            rw [cntS_cons]
            have m := ih.mem i s (by simpa using hi) (by simpa using hs)
            by_cases ht2 : x.turns = true
            · simp [ht2, m]
            · simp [ht2, m]
      · simp at h
    · simp at h

def wAt (G : Nat → List IV) (R : Run) (l : List Ins) (ss : List St) (i : Nat) : AV :=
  match l[i]?, ss[i]? with
  | some (.op d g k), some s => (match insV G R s d g k with | some r => r.1 | none => .und)
  | _, _ => .und

structure At (G : Nat → List IV) (R : Run) (l : List Ins) (s0 : St) (ss : List St) (hs : List (Heap × Nat)) (S : Nat → Bool) (s : St) : Prop where
  len : s.tm.length = s0.tm.length
  on : ∀ (j : Nat) (x : Ins) (t : Nat), S j = true → l[j]? = some x → x.dst = some t → t < s0.tm.length → s.get t = wAt G R l ss j
  off : ∀ t : Nat, (∀ (j : Nat) (x : Ins), S j = true → l[j]? = some x → x.dst ≠ some t) → s.get t = s0.get t
  mem : hs[cntS l S]? = some (s.hp, s.ct)

variable {l : List Ins} {pre : List (List Nat)} {s0 : St} {ss : List St} {hs : List (Heap × Nat)} {S : Nat → Bool} {s : St}

theorem with_get_ne {d : Option Nat} {r : AV × Heap × Nat} {t : Nat} (h : d ≠ some t) : (s.with d r).get t = s.get t := by
  cases d with
  | none => rfl
  | some d =>
    have : d ≠ t := fun e => h (by rw [e])
    simp [St.with, St.put, St.get, List.getD_eq_getElem?_getD, List.getElem?_set_ne this]

theorem with_get {r : AV × Heap × Nat} {t : Nat} (h : t < s.tm.length) : (s.with (some t) r).get t = r.1 := by
  simp [St.with, St.put, St.get, List.getD_eq_getElem?_getD, h]

theorem with_len {d : Option Nat} {r : AV × Heap × Nat} : (s.with d r).tm.length = s.tm.length := by
  cases d <;> simp [St.with, St.put]

theorem At.put (D : Draw l pre) (h : At G R l s0 ss hs S s) {i : Nat} {d : Option Nat} {g : Option (Nat × Bool)} {k : K} (hi : l[i]? = some (.op d g k)) {r : AV × Heap × Nat}
    (hr : r.1 = wAt G R l ss i) (hm : hs[cntS l (updS S i)]? = some (r.2.1, r.2.2)) : At G R l s0 ss hs (updS S i) (s.with d r) := by
  refine ⟨by rw [with_len]; exact h.len, fun j x t hj hx hd ht => ?_, fun t ht => ?_, by rw [hm, with_mem.1, with_mem.2]⟩
  · simp [updS] at hj
    by_cases e : j = i
    · subst e
      rw [hi] at hx
      simp at hx
      subst hx
      have hd : d = some t := hd
      subst hd
      rw [with_get (by rw [h.len]; exact ht), hr]
    · have hS : S j = true := hj.resolve_right e
      have : d ≠ some t := fun e2 => e (D.dst j i x _ t hx hi hd e2)
      rw [with_get_ne this]
      exact h.on j x t hS hx hd ht
  · have : d ≠ some t := fun e => ht i _ (by simp [updS]) hi e
    rw [with_get_ne this]
    exact h.off t fun j x hj hx => ht j x (by simp [updS, hj]) hx

theorem Canon.at_ (C : Canon G R l s0 ss hs) (D : Draw l pre) : ∀ (i : Nat) (s : St), i ≤ l.length → ss[i]? = some s → At G R l s0 ss hs (ltS i) s
  | 0, s, _, h => by
    have : s = s0 := by have := C.at0; rw [h] at this; simpa using this
    subst this
    exact ⟨rfl, fun j x t hj => by simp [ltS] at hj, fun _ _ => rfl, C.mem 0 s (Nat.zero_le _) h⟩
  | i + 1, s', hi, h => by
    have hlt : i < l.length := hi
    obtain ⟨x, hx⟩ : ∃ x, l[i]? = some x := ⟨l[i], by simp [hlt]⟩
    obtain ⟨s, s2, h1, h2, h3⟩ := C.step i x hx
    rw [h] at h2
    simp at h2
    subst h2
    obtain ⟨d, g, k, rfl⟩ := D.op i x hx
    have ih := C.at_ D i s (Nat.le_of_lt hlt) h1
    simp only [insI] at h3
    split at h3
    · rename_i r hr
      simp at h3
      subst h3
      have e : ltS (i + 1) = updS (ltS i) i := by
        funext j
        rw [Bool.eq_iff_iff]
        simp only [ltS, updS, Bool.or_eq_true, decide_eq_true_eq, beq_iff_eq]
        omega
      have hm := C.mem (i + 1) _ hi h
      rw [e, with_mem.1, with_mem.2] at hm
      rw [e]
      exact ih.put D hx (by simp [wAt, hx, h1, hr]) hm
    · simp at h3

theorem get_big {t : Nat} (h : s.tm.length ≤ t) : s.get t = .und := by
  simp [St.get, List.getD_eq_getElem?_getD, List.getElem?_eq_none h]

/-- One operation more. -/
theorem At.step (D : Draw l pre) (C : Canon G R l s0 ss hs) (hdyn : drawDyn G R l pre ss hs = true) (h : At G R l s0 ss hs S s)
    (hc : ∀ j k, S j = true → preHas pre j k = true → S k = true) {i : Nat} (hS : S i = false) (hp : ∀ k, preHas pre i k = true → S k = true) {x : Ins} (hi : l[i]? = some x) :
    ∃ s', insI G R s x = some s' ∧ At G R l s0 ss hs (updS S i) s' := by
  have hlt : i < l.length := (List.getElem?_eq_some_iff.1 hi).1
  obtain ⟨d, g, k, rfl⟩ := D.op i x hi
  obtain ⟨si, s2, h1, h2, h3⟩ := C.step i _ hi
  have Ai := C.at_ D i si (Nat.le_of_lt hlt) h1
  simp only [insI] at h3
  split at h3
  case h_2 => simp at h3
  rename_i rc hrc
  simp at h3
  have hw : wAt G R l ss i = rc.1 := by simp [wAt, hi, h1, hrc]
  have hreads : ∀ t ∈ (Ins.op d g k).reads, s.get t = si.get t := by
    intro t ht
    by_cases hex : ∃ (j : Nat) (x : Ins), l[j]? = some x ∧ x.dst = some t
    · obtain ⟨j, y, hy, hd⟩ := hex
      by_cases hbig : t < s0.tm.length
      · by_cases e : j = i
        · subst e
          rw [h.off t fun j' x' hj' hx' e' => by
              have := D.dst j' j x' y t hx' hy e' hd
              subst this
              rw [hS] at hj'; simp at hj',
            Ai.off t fun j' x' hj' hx' e' => by
              have := D.dst j' j x' y t hx' hy e' hd
              subst this
              simp [ltS] at hj']
        · rcases D.rw_ j i y _ t hy hi hd ht e with hq | hq
          · have hj : i < j := D.lt _ _ hq
            have hSj : S j = false := by
              cases hv : S j with
              | false => rfl
              | true => have := hc j i hv hq; rw [hS] at this; simp at this
            rw [h.off t fun j' x' hj' hx' e' => by
                have := D.dst j' j x' y t hx' hy e' hd
                subst this
                rw [hSj] at hj'; simp at hj',
              Ai.off t fun j' x' hj' hx' e' => by
                have := D.dst j' j x' y t hx' hy e' hd
                subst this
                simp [ltS] at hj'
                omega]
          · have hj : j < i := D.lt _ _ hq
            rw [h.on j y t (hp j hq) hy hd hbig, Ai.on j y t (by simp [ltS, hj]) hy hd hbig]
      · rw [get_big (by rw [h.len]; omega), get_big (by rw [Ai.len]; omega)]
    · rw [h.off t fun j' x' _ hx' e' => hex ⟨j', x', hx', e'⟩, Ai.off t fun j' x' _ hx' e' => hex ⟨j', x', hx', e'⟩]
  have same : cntS l S = cntS l (ltS i) → insV G R s d g k = some rc := fun e => by
    have m1 := h.mem
    have m2 := Ai.mem
    rw [e, m2] at m1
    simp at m1
    rw [insV_congr (h.len.trans Ai.len.symm) m1.1.symm m1.2.symm hreads]
    exact hrc
  by_cases ht : k.turns = true
  · have hti : turnAt l i = true := by simp [turnAt, hi, Ins.turns, ht]
    have e : cntS l S = cntS l (ltS i) := cntS_congr fun j hj => by
      by_cases e : j = i
      · subst e; simp [hS, ltS]
      · rcases D.tt j i hj hti e with hq | hq
        · have hj : i < j := D.lt _ _ hq
          have hSj : S j = false := by
            cases hv : S j with
            | false => rfl
            | true => have := hc j i hv hq; rw [hS] at this; simp at this
          simp [hSj, ltS]; omega
        · have hj : j < i := D.lt _ _ hq
          simp [hp j hq, ltS, hj]
    have hv := same e
    refine ⟨s.with d rc, by simp [insI, hv], h.put D hi hw.symm ?_⟩
    rw [cntS_upd hS hlt, e]
    have m := C.mem (i + 1) s2 hlt h2
    have e2 : ltS (i + 1) = updS (ltS i) i := by
      funext j
      rw [Bool.eq_iff_iff]
      simp only [ltS, updS, Bool.or_eq_true, decide_eq_true_eq, beq_iff_eq]
      omega
    rw [e2, cntS_upd (by simp [ltS]) hlt] at m
    rw [m, ← h3, with_mem.1, with_mem.2]
  · have ht : k.turns = false := by simpa using ht
    have hti : turnAt l i = false := by simp [turnAt, hi, Ins.turns, ht]
    have lo1 : loOf l pre i ≤ cntS l S := cntS_mono fun j _ hj => hp j hj
    have hi1 : cntS l S ≤ hiOf l pre i := cntS_mono fun j _ hj => by
      cases hq : preHas pre j i with
      | false => rfl
      | true => have := hc j i hj hq; rw [hS] at this; simp at this
    have lo2 : loOf l pre i ≤ cntS l (ltS i) := cntS_mono fun j _ hj => by have := D.lt _ _ hj; simp [ltS, this]
    have hi2 : cntS l (ltS i) ≤ hiOf l pre i := cntS_mono fun j _ hj => by
      cases hq : preHas pre j i with
      | false => rfl
      | true => have := D.lt _ _ hq; simp [ltS] at hj; omega
    have key : ∃ r, insV G R s d g k = some r ∧ r.1 = rc.1 := by
      simp only [drawDyn, List.all_eq_true, List.mem_range] at hdyn
      have hd := hdyn i hlt
      simp only [hi, h1, Ins.turns, ht, Bool.false_or, Bool.or_eq_true, beq_iff_eq, List.all_eq_true, List.mem_range] at hd
      rcases hd with hd | hd
      · exact ⟨rc, same (by omega), rfl⟩
      · have := hd (cntS l S - loOf l pre i) (by omega)
        have e : loOf l pre i + (cntS l S - loOf l pre i) = cntS l S := by omega
        rw [e, h.mem] at this
        simp only [stableAt] at this
        split at this
        · rename_i r r' hr hr'
          rw [hrc] at hr
          simp at hr
          subst hr
          refine ⟨r', ?_, eqAV_sound _ _ this⟩
          rw [← hr']
          exact insV_congr (s := s) (s' := { si with hp := s.hp, ct := s.ct }) (h.len.trans Ai.len.symm) rfl rfl hreads
        · simp at this
    obtain ⟨r, hr, hr1⟩ := key
    refine ⟨s.with d r, by simp [insI, hr], h.put D hi (hr1.trans hw.symm) ?_⟩
    rw [cntS_upd hS hlt]
    simp only [hti, Bool.false_eq_true, if_false, Nat.add_zero]
    have := insV_stays ht hr
    rw [this.1, this.2, h.mem]

theorem St.ext_get {a b : St} (h1 : a.tm.length = b.tm.length) (h2 : ∀ t < a.tm.length, a.get t = b.get t) (h3 : a.hp = b.hp) (h4 : a.ct = b.ct) : a = b := by
  obtain ⟨ta, ha, ca⟩ := a
  obtain ⟨tb, hb, cb⟩ := b
  simp only [] at h1 h2 h3 h4
  subst h3; subst h4
  have : ta = tb := by
    apply List.ext_getElem? 
    intro t
    rcases Nat.lt_or_ge t ta.length with hlt | hge
    · have := h2 t hlt
      simp only [St.get, List.getD_eq_getElem?_getD] at this
      rw [List.getElem?_eq_getElem hlt, List.getElem?_eq_getElem (h1 ▸ hlt)] at this ⊢
      simpa using this
    · rw [List.getElem?_eq_none hge, List.getElem?_eq_none (h1 ▸ hge)]
  rw [this]

end

/-- An order of the operations in which each stands behind those that it waits for. -/
def okOrd (ops : Array Oper) (md : Region.Mode) : List Nat → List Nat → Bool
  | seen, [] => (List.range ops.size).all fun i => seen.contains i
  | seen, i :: l => (match ops[i]? with | some o => o.after.toList.all fun e => !Region.binds md e || seen.contains e.on | none => false) && okOrd ops md (i :: seen) l

def okModes (ops : Array Oper) : Bool := [Region.Mode.any, .text, .gc].all fun md => okOrd ops md [] (Region.linearise md ops 0)

def okPre (ops : Array Oper) (pre : List (List Nat)) : Bool :=
  (List.range ops.size).all fun i => match ops[i]?, pre[i]? with
    | some o, some p => p.all fun j => o.after.toList.any fun e => Region.binds .any e && (e.on == j || preHas pre e.on j)
    | _, _ => false

def isGal (t : Nat) : Ins → Bool
  | .op _ _ (.galloc _ t') => t' == t
  | _ => false
def isGst : Ins → Bool
  | .op _ _ (.gsto ..) => true
  | _ => false
def galAt (n t : Nat) : Ins → Bool
  | .op none none (.galloc n' t') => n' == n && t' == t
  | _ => false
def okGal (P : Program) (t n : Nat) (o : Oper) : Bool := o.dst == some t && o.guard.isNone && match o.op with | .alloc ty => galT P ty n | _ => false
def okGst (P : Program) (t n : Nat) (y : Opd) (o : Oper) : Bool := o.dst.isNone && o.guard.isNone && match o.op with | .store ty (.tmp t') x => t' == t && okOpd x y && (tyOk P ty n true || tyOk P ty n false) | _ => false
/-- An operation of a drawn region: one that lays a hidden block, one that writes such a block, or another. -/
def okGIns (P : Program) (ops : Array Oper) (l : List Ins) (pre : List (List Nat)) (i : Nat) (x : Ins) : Bool :=
  okIns P ops i x || (match x, ops[i]? with
    | .op none none (.galloc n t), some o => okGal P t n o && l.any (fun y => y.dst == some t && isGst y) && (List.range l.length).all fun j => j == i || (match l[j]? with | some y => !isGal t y | none => true)
    | .op (some t) none (.gsto n y), some o => okGst P t n y o && (List.range l.length).any fun j => preHas pre i j && (match l[j]? with | some y => galAt n t y | none => false)
    | _, _ => false)

def okDraw (P : Program) (ops : Array Oper) (l : List Ins) (pre : List (List Nat)) : Bool :=
  okModes ops && l.length == ops.size && drawStatic l pre && okPre ops pre && (List.range l.length).all fun i => match l[i]? with | some x => okGIns P ops l pre i x | none => false

theorem okIns_ord {P : Program} {ops : Array Oper} {i : Nat} {x : Ins} (h : okIns P ops i x = true) : (∀ t, isGal t x = false) ∧ isGst x = false := by
  cases x with
  | kill => exact ⟨fun _ => rfl, rfl⟩
  | frz => exact ⟨fun _ => rfl, rfl⟩
  | op d g k =>
    unfold okIns at h
    cases k
    case galloc n t =>
      simp only at h
      split at h
      · rename_i o _
        simp only [Bool.and_eq_true] at h
        have h2 := h.2
        unfold okK at h2
        split at h2 <;> simp_all
      · simp at h
    case gsto n y =>
      simp only at h
      split at h
      · rename_i o _
        simp only [Bool.and_eq_true] at h
        have h2 := h.2
        unfold okK at h2
        split at h2 <;> simp_all
      · simp at h
    all_goals exact ⟨fun _ => rfl, rfl⟩

theorem okG_cases {P : Program} {ops : Array Oper} {l : List Ins} {pre : List (List Nat)} {i : Nat} {x : Ins} (h : okGIns P ops l pre i x = true) :
    okIns P ops i x = true ∨
    (∃ n t o ty, x = .op none none (.galloc n t) ∧ ops[i]? = some o ∧ o.dst = some t ∧ o.guard = none ∧ o.op = .alloc ty ∧ galT P ty n = true ∧ (∃ (j : Nat) (y : Ins), l[j]? = some y ∧ y.dst = some t ∧ isGst y = true) ∧ ∀ (j : Nat) (y : Ins), l[j]? = some y → isGal t y = true → j = i) ∨
    (∃ n t y o ty x' agg j, x = .op (some t) none (.gsto n y) ∧ ops[i]? = some o ∧ o.dst = none ∧ o.guard = none ∧ o.op = .store ty (.tmp t) x' ∧ okOpd x' y = true ∧ tyOk P ty n agg = true ∧ preHas pre i j = true ∧ l[j]? = some (.op none none (.galloc n t))) := by
  unfold okGIns at h
  rw [Bool.or_eq_true] at h
  rcases h with h | h
  · exact .inl h
  · split at h
    · rename_i n t o ho
      simp only [Bool.and_eq_true, okGal, beq_iff_eq, Option.isNone_iff_eq_none, List.any_eq_true, List.all_eq_true, List.mem_range, Bool.or_eq_true] at h
      obtain ⟨⟨⟨⟨h1, h2⟩, h3⟩, ⟨y, h4, h5⟩⟩, h6⟩ := h
      split at h3
      · rename_i ty hop
        obtain ⟨j, hj⟩ := List.mem_iff_getElem?.1 h4
        refine .inr (.inl ⟨n, t, o, ty, rfl, ho, h1, h2, hop, h3, ⟨j, y, hj, h5.1, h5.2⟩, fun j y hj hg => ?_⟩)
        have := h6 j (List.getElem?_eq_some_iff.1 hj).1
        rcases this with r | r
        · exact r
        · rw [hj] at r; simp [hg] at r
      · simp at h3
    · rename_i t n y o ho
      simp only [Bool.and_eq_true, okGst, beq_iff_eq, Option.isNone_iff_eq_none, List.any_eq_true, List.mem_range] at h
      obtain ⟨⟨⟨h1, h2⟩, h3⟩, ⟨j, hj, h4, h5⟩⟩ := h
      split at h3
      · rename_i ty t' x' hop
        simp only [Bool.and_eq_true, beq_iff_eq, Bool.or_eq_true] at h3
        obtain ⟨⟨rfl, h6⟩, h7⟩ := h3
        split at h5
        · rename_i z hz
          unfold galAt at h5
          split at h5
          · rename_i n' t''
            simp only [Bool.and_eq_true, beq_iff_eq] at h5
            obtain ⟨rfl, rfl⟩ := h5
            rcases h7 with h7 | h7
            · exact .inr (.inr ⟨_, _, y, o, ty, x', true, j, rfl, ho, h1, h2, hop, h6, h7, h4, hz⟩)
            · exact .inr (.inr ⟨_, _, y, o, ty, x', false, j, rfl, ho, h1, h2, hop, h6, h7, h4, hz⟩)
          · simp at h5
        · simp at h5
      · simp at h3
    · simp at h

/-- A block that is laid and not yet written. -/
def pen (l : List Ins) (S : Nat → Bool) (t n : Nat) : Prop := (∃ (i : Nat) (d : Option Nat) (g : Option (Nat × Bool)), l[i]? = some (.op d g (.galloc n t)) ∧ S i = true) ∧ ∀ (j : Nat) (x : Ins), l[j]? = some x → x.dst = some t → S j = false

structure Pd (X : Cx) (l : List Ins) (S : Nat → Bool) (H : Nat → Option Obj) (a : Act) (z : Nat) : Prop where
  base : ∀ c o, X.H c = some o → H c = some o
  at_ : ∀ t n, pen l S t n → ∃ c cs e, a.tmps.getD t undef = .pointer (some ⟨c, 0, none⟩) ∧ X.H c = none ∧ H c = some (.cells cs e (0, 0)) ∧ cs.size = n ∧ z ≤ c
  inj : ∀ t n t' n' c, pen l S t n → pen l S t' n' → a.tmps.getD t undef = .pointer (some ⟨c, 0, none⟩) → a.tmps.getD t' undef = .pointer (some ⟨c, 0, none⟩) → t = t'
  back : ∀ c o, H c = some o → X.H c = some o ∨ ∃ t n, pen l S t n ∧ a.tmps.getD t undef = .pointer (some ⟨c, 0, none⟩)

section
variable {P : Program} {X : Cx} {G : Nat → List IV} {R : Run} {l : List Ins} {pre : List (List Nat)} {s0 : St} {ss : List St} {hs : List (Heap × Nat)}

theorem binds_any {md : Region.Mode} {e : Edge} (h : Region.binds .any e = true) : Region.binds md e = true := by
  unfold Region.binds at h ⊢
  split <;> simp_all

theorem draw_ord {ops : Array Oper} {md : Region.Mode} {listed : Array Bool} (hr : Region.ready md ops listed = []) (hsz : listed.size = ops.size) : ∀ (l seen : List Nat), okOrd ops md seen l = true → (∀ j ∈ seen, listed.getD j false = true) → ∀ i, i < ops.size → listed.getD i false = true
  | [], seen, h, hs, i, hi => by
    simp only [okOrd, List.all_eq_true, List.mem_range] at h
    exact hs i (by simpa using h i hi)
  | k :: l, seen, h, hs, i, hi => by
    simp only [okOrd, Bool.and_eq_true] at h
    refine draw_ord hr hsz l (k :: seen) h.2 (fun j hj => ?_) i hi
    rcases List.mem_cons.1 hj with rfl | hj
    · have h1 := h.1
      split at h1
      · rename_i o ho
        cases hq : listed.getD j false with
        | true => rfl
        | false =>
          have : j ∈ Region.ready md ops listed := mem_ready.2 ⟨by
              have hlt : j < listed.size := hsz ▸ (Array.getElem?_eq_some_iff.1 ho).1
              simp [Array.getD, hlt] at hq ⊢
              exact hq, o, ho, fun e he hb => by
              simp only [List.all_eq_true, Bool.or_eq_true, Bool.not_eq_true'] at h1
              have := (h1 e (by simpa using he)).resolve_left (by simp [hb])
              exact hs e.on (by simpa using this)⟩
          rw [hr] at this
          simp at this
      · simp at h1
    · exact hs j hj

theorem draw_all {ops : Array Oper} (hm : okModes ops = true) {md : Region.Mode} {listed : Array Bool} (hr : Region.ready md ops listed = []) (hsz : listed.size = ops.size) : ∀ i, i < ops.size → listed.getD i false = true := by
  simp only [okModes, List.all_cons, List.all_nil, Bool.and_true, Bool.and_eq_true] at hm
  cases md with
  | any => exact draw_ord hr hsz _ [] hm.1 (by simp)
  | text => exact draw_ord hr hsz _ [] hm.2.1 (by simp)
  | gc => exact draw_ord hr hsz _ [] hm.2.2 (by simp)

theorem draw_go (hR : RunOk P G R) (hG : GOk X G) {ops : Array Oper} (hk : okDraw P ops l pre = true) (C : Canon G R l s0 ss hs) (hdyn : drawDyn G R l pre ss hs = true) {Q : Exit → Act → World → Prop} {sn : St} (hn : ss[l.length]? = some sn) (md : Region.Mode) {E0 : Env}
    (hQ : ∀ E' a', Rel X E' sn a' → Ext X E0 E' → E0.w.heap.size ≤ E'.w.heap.size → Q .normal a' E'.w) :
    ∀ (fuel : Nat) (listed : Array Bool) (s : St) (E : Env) (a : Act) (H : Nat → Option Obj), listed.size = ops.size → At G R l s0 ss hs (fun j => listed.getD j false) s →
      (∀ j k, listed.getD j false = true → preHas pre j k = true → listed.getD k false = true) → (List.range ops.size).countP (fun j => !listed.getD j false) ≤ fuel → Rel (X.hide H) E s a →
      Pd X l (fun j => listed.getD j false) H a E0.w.heap.size → Ext X E0 E → E0.w.heap.size ≤ E.w.heap.size → wpAny P md ops Q fuel listed a E.w := by
  simp only [okDraw, Bool.and_eq_true, beq_iff_eq, List.all_eq_true, List.mem_range] at hk
  obtain ⟨⟨⟨⟨hmodes, hlen⟩, hst⟩, hpre⟩, hins⟩ := hk
  have D := Draw.of hst
  have okG : ∀ (i : Nat) (x : Ins), l[i]? = some x → okGIns P ops l pre i x = true := fun i x hx => by
    have := hins i (List.getElem?_eq_some_iff.1 hx).1
    rw [hx] at this
    exact this
  have gst_of : ∀ (i n t : Nat) (d : Option Nat) (g : Option (Nat × Bool)), l[i]? = some (.op d g (.galloc n t)) → d = none ∧ (∃ (j : Nat) (y : Ins), l[j]? = some y ∧ y.dst = some t ∧ isGst y = true) ∧ ∀ (j : Nat) (y : Ins), l[j]? = some y → isGal t y = true → j = i := fun i n t d g hi => by
    rcases okG_cases (okG i _ hi) with h | ⟨n', t', o, ty, h1, _, _, _, _, _, h2, h3⟩ | ⟨n', t', y, o, ty, x', agg, j, h1, _⟩
    · have := (okIns_ord h).1 t
      simp [isGal] at this
    · injection h1 with h1 _ h4
      injection h4 with _ h4
      subst h4
      exact ⟨h1, h2, h3⟩
    · injection h1 with _ _ h4
      simp at h4
  have done : ∀ (listed : Array Bool) (s : St) (H : Nat → Option Obj) (a : Act) (E : Env), listed.size = ops.size → At G R l s0 ss hs (fun j => listed.getD j false) s → Region.ready md ops listed = [] → Rel (X.hide H) E s a → Pd X l (fun j => listed.getD j false) H a E0.w.heap.size → Rel X E sn a := by
    intro listed s H a E hsz hA hr hrel hpd
    have all := draw_all hmodes hr hsz
    have An := C.at_ D l.length sn (Nat.le_refl _) hn
    have lt_of : ∀ (j : Nat) (x : Ins), l[j]? = some x → j < l.length := fun j x h => (List.getElem?_eq_some_iff.1 h).1
    have em : cntS l (fun j => listed.getD j false) = cntS l (ltS l.length) := cntS_congr fun j hj => by
      have hj : j < l.length := by
        unfold turnAt at hj
        split at hj
        · rename_i x hx; exact lt_of j x hx
        · simp at hj
      show listed.getD j false = ltS l.length j
      rw [all j (hlen ▸ hj)]
      simp [ltS, hj]
    have m := hA.mem
    rw [em, An.mem] at m
    simp at m
    have hs : s = sn := by
      refine St.ext_get (hA.len.trans An.len.symm) (fun t ht => ?_) m.1.symm m.2.symm
      by_cases hex : ∃ (j : Nat) (x : Ins), l[j]? = some x ∧ x.dst = some t
      · obtain ⟨j, x, hx, hd⟩ := hex
        rw [hA.on j x t (all j (hlen ▸ lt_of j x hx)) hx hd (hA.len ▸ ht), An.on j x t (by simp [ltS, lt_of j x hx]) hx hd (hA.len ▸ ht)]
      · rw [hA.off t fun j' x' _ hx' e' => hex ⟨j', x', hx', e'⟩, An.off t fun j' x' _ hx' e' => hex ⟨j', x', hx', e'⟩]
    have hno : ∀ t n, ¬ pen l (fun j => listed.getD j false) t n := by
      rintro t n ⟨⟨i, d, g, hi, _⟩, h2⟩
      obtain ⟨_, ⟨j, y, hj, hd, _⟩, _⟩ := gst_of i n t d g hi
      have : listed.getD j false = false := h2 j y hj hd
      rw [all j (hlen ▸ lt_of j y hj)] at this
      simp at this
    have hH : H = X.H := by
      funext c
      cases hc : H c with
      | none =>
        cases hx : X.H c with
        | none => rfl
        | some o => rw [hpd.base c o hx] at hc; simp at hc
      | some o =>
        rcases hpd.back c o hc with h | ⟨t, n, h, _⟩
        · exact h.symm
        · exact absurd h (hno t n)
    subst hH; subst hs
    exact hrel
  intro fuel
  induction fuel with
  | zero =>
    intro listed s E a H hsz hA hc hf hr hpd hE hz
    have hrd : Region.ready md ops listed = [] := by
      rw [List.eq_nil_iff_forall_not_mem]
      intro i hi
      obtain ⟨h0, o, ho, _⟩ := mem_ready.1 hi
      have hlt : i < ops.size := (Array.getElem?_eq_some_iff.1 ho).1
      have := List.countP_eq_zero.1 (Nat.le_zero.1 hf) i (List.mem_range.2 hlt)
      have hlt2 : i < listed.size := hsz ▸ hlt
      simp [Array.getD, hlt2] at this h0
      rw [h0] at this
      simp at this
    exact ⟨hrd, hQ E a (done listed s H a E hsz hA hrd hr hpd) hE hz⟩
  | succ fuel ih =>
    intro listed s E a H hsz hA hc hf hr hpd hE hz
    refine ⟨fun hrd => hQ E a (done listed s H a E hsz hA hrd hr hpd) hE hz, fun i hi => ?_⟩
    obtain ⟨h0, o, ho, hedge⟩ := mem_ready.1 hi
    have hlt : i < ops.size := (Array.getElem?_eq_some_iff.1 ho).1
    have hlt2 : i < listed.size := hsz ▸ hlt
    have hS : listed.getD i false = false := by simp [Array.getD, hlt2] at h0 ⊢; exact h0
    obtain ⟨x, hx⟩ : ∃ x, l[i]? = some x := ⟨l[i], by simp [hlen, hlt]⟩
    have hp : ∀ k, preHas pre i k = true → listed.getD k false = true := by
      intro k hk
      simp only [okPre, List.all_eq_true, List.mem_range] at hpre
      have h := hpre i hlt
      split at h
      · rename_i o' p ho' hp'
        rw [ho] at ho'
        simp at ho'
        subst ho'
        simp only [Bool.and_eq_true, List.all_eq_true, List.any_eq_true] at h
        obtain ⟨e, he, hb⟩ := h k (by simpa [preHas, hp'] using hk)
        simp only [Bool.or_eq_true, beq_iff_eq] at hb
        have hon := hedge e (by simpa using he) (binds_any hb.1)
        rcases hb.2 with rfl | hb2
        · exact hon
        · exact hc e.on k hon hb2
      · simp at h
    obtain ⟨s', hs', hA'⟩ := hA.step D C hdyn (fun j k hj hk => hc j k hj hk) hS hp hx
    have hupd : (fun j => (listed.setIfInBounds i true).getD j false) = updS (fun j => listed.getD j false) i := by
      funext j
      by_cases e : i = j
      · subst e; simp [updS, hlt2]
      · rw [getD_set_ne false e]
        have : (j == i) = false := by simp; exact fun h => e h.symm
        simp [updS, this]
    have hc' : ∀ j k, (listed.setIfInBounds i true).getD j false = true → preHas pre j k = true → (listed.setIfInBounds i true).getD k false = true := by
      intro j k hj hk
      by_cases e : i = j
      · subst e; exact getD_set_true (hp k hk)
      · rw [getD_set_ne false e] at hj
        exact getD_set_true (hc j k hj hk)
    have hf' : (List.range ops.size).countP (fun j => !(listed.setIfInBounds i true).getD j false) ≤ fuel := by
      have e3 : (fun j => !(listed.setIfInBounds i true).getD j false) = fun j => !(updS (fun j => listed.getD j false) i j) := by
        funext j
        rw [← congrFun hupd j]
      rw [e3]
      have e2 := countP_upd (fun j => !updS (fun j => listed.getD j false) i j) (fun _ => true) i (by simp [updS]) ops.size
      have e4 : (fun j => updS (fun j => !updS (fun j => listed.getD j false) i j) i j && true) = fun j => !listed.getD j false := by
        funext j
        by_cases e : j = i
        · subst e; simp only [updS, hS]; simp
        · have : (j == i) = false := by simp [e]
          simp only [updS, this]; simp
      rw [e4] at e2
      simp only [hlt, Bool.and_true, and_self, if_true] at e2
      omega
    have upd_ne : ∀ j, updS (fun j => listed.getD j false) i j = true → j ≠ i → listed.getD j false = true := fun j hj hne => by
      have : (j == i) = false := by simp [hne]
      simpa [updS, this] using hj
    have upd_false : ∀ j, updS (fun j => listed.getD j false) i j = false → listed.getD j false = false := fun j hj => by
      simp only [updS, Bool.or_eq_false_iff] at hj
      exact hj.1
    have upd_of : ∀ j, listed.getD j false = true → updS (fun j => listed.getD j false) i j = true := fun j hj => by simp [updS, hj]
    have upd_off : ∀ j, listed.getD j false = false → j ≠ i → updS (fun j => listed.getD j false) i j = false := fun j hj hne => by simp [updS, hj, hne]
    have hidlt : ∀ c o, H c = some o → c < E.w.heap.size := fun c o hc => (Array.getElem?_eq_some_iff.1 (hr.wr.hid c o hc).1).1
    rcases okG_cases (okG i x hx) with hok | ⟨n, t, o', ty, rfl, ho', hd, hg, hop, hzr, hgst, huni⟩ | ⟨n, t, y, o', ty, x', agg, j1, rfl, ho', hd, hg, hop, hxo, hty, hpj, hj1⟩
    · obtain ⟨d, g, k, rfl⟩ := D.op i x hx
      obtain ⟨hng, hns⟩ := okIns_ord hok
      have hne : ∀ t n, pen l (fun j => listed.getD j false) t n → d ≠ some t := by
        rintro t n ⟨⟨i', d', g', hi', _⟩, _⟩ rfl
        obtain ⟨_, ⟨j, y, hj, hd, hy⟩, _⟩ := gst_of i' n t d' g' hi'
        have := D.dst i j _ _ t hx hj rfl hd
        subst this
        rw [hx] at hj
        have hj := Option.some.inj hj
        subst hj
        rw [hns] at hy
        simp at hy
      have hpen : ∀ t n, pen l (updS (fun j => listed.getD j false) i) t n → pen l (fun j => listed.getD j false) t n := by
        rintro t n ⟨⟨i', d', g', hi', h1⟩, h2⟩
        refine ⟨⟨i', d', g', hi', upd_ne i' h1 ?_⟩, fun j x hj hd => upd_false j (h2 j x hj hd)⟩
        rintro rfl
        rw [hx] at hi'
        have hi' := Option.some.inj hi'
        have := hng t
        rw [hi'] at this
        simp [isGal] at this
      refine ins_op (X := X.hide H) hR hG hr hok hs' fun E' a' g1 g2 g3 g4 => ?_
      refine ih _ s' E' a' H (by simpa using hsz) (hupd ▸ hA') hc' hf' g1 ?_ (hE.transH g2 hz (fun c o hc => ?_) hpd.base) (Nat.le_trans hz g3)
      · rw [hupd]
        refine ⟨hpd.base, fun t n h => ?_, fun t n t' n' c h h' e e' => ?_, fun c o hc => ?_⟩
        · rw [g4 t (hne t n (hpen t n h))]
          exact hpd.at_ t n (hpen t n h)
        · rw [g4 t (hne t n (hpen t n h))] at e
          rw [g4 t' (hne t' n' (hpen t' n' h'))] at e'
          exact hpd.inj t n t' n' c (hpen t n h) (hpen t' n' h') e e'
        · rcases hpd.back c o hc with h | ⟨t, n, h, e⟩
          · exact .inl h
          · refine .inr ⟨t, n, ⟨?_, fun j x hj hd => upd_off j (h.2 j x hj hd) ?_⟩, by rw [g4 t (hne t n h)]; exact e⟩
            · obtain ⟨i', d', g', h1, h2⟩ := h.1
              exact ⟨i', d', g', h1, upd_of i' h2⟩
            · rintro rfl
              rw [hx] at hj
              have hj := Option.some.inj hj
              subst hj
              exact hne t n h hd
      · rcases hpd.back c o hc with h | ⟨t, n, h, e⟩
        · exact .inl h
        · obtain ⟨c', cs, e', h1, h2, h3, h4, h5⟩ := hpd.at_ t n h
          rw [e] at h1
          simp at h1
          subst h1
          exact .inr h5
    · have hs2 : t < s.tm.length ∧ s.get t = .und ∧ s' = s := by
        simp only [insI, insV, want, opK, step] at hs'
        by_cases hlt3 : t < s.tm.length
        · simp only [if_pos hlt3] at hs'
          cases hq : s.get t with
          | und =>
            rw [hq] at hs'
            simp only [Option.some.injEq] at hs'
            exact ⟨hlt3, rfl, hs'.symm⟩
          | _ => rw [hq] at hs'; simp at hs'
        · simp [if_neg hlt3] at hs'
      obtain ⟨hlt3, hu, rfl⟩ := hs2
      have hpre' : ∀ (j : Nat) (x : Ins), l[j]? = some x → x.dst = some t → listed.getD j false = false := by
        intro j x hj hdx
        cases hq : listed.getD j false with
        | false => rfl
        | true =>
          exfalso
          obtain ⟨j0, y0, hj0, hd0, hy0⟩ := hgst
          have := D.dst j j0 x y0 t hj hj0 hdx hd0
          subst this
          rw [hj] at hj0
          have hj0 := Option.some.inj hj0
          subst hj0
          rcases okG_cases (okG j x hj) with h | ⟨n', t', o2, ty2, rfl, _⟩ | ⟨n', t', y, o2, ty2, x2, agg, j2, rfl, _, _, _, _, _, _, h3, h4⟩
          · have := (okIns_ord h).2
            rw [hy0] at this
            simp at this
          · simp [Ins.dst] at hdx
          · have hdx : some t' = some t := hdx
            injection hdx with hdx
            subst hdx
            have := huni j2 _ h4 (by simp [isGal])
            subst this
            have := hc j _ hq h3
            rw [hS] at this
            simp at this
      have hnp : ∀ n', ¬ pen l (fun j => listed.getD j false) t n' := by
        rintro n' ⟨⟨i', d', g', hi', h1⟩, _⟩
        have := huni i' _ hi' (by simp [isGal])
        subst this
        simp only at h1
        rw [hS] at h1
        simp at h1
      have hpen : ∀ t' n', pen l (updS (fun j => listed.getD j false) i) t' n' → (t' ≠ t ∧ pen l (fun j => listed.getD j false) t' n') ∨ (t' = t ∧ n' = n) := by
        rintro t' n' ⟨⟨i', d', g', hi', h1⟩, h2⟩
        by_cases e : t' = t
        · subst e
          have := huni i' _ hi' (by simp [isGal])
          subst this
          rw [hx] at hi'
          have hi' := Option.some.inj hi'
          injection hi' with _ _ h3
          injection h3 with h3 _
          exact .inr ⟨rfl, h3.symm⟩
        · refine .inl ⟨e, ⟨i', d', g', hi', upd_ne i' h1 ?_⟩, fun j x hj hd => upd_false j (h2 j x hj hd)⟩
          rintro rfl
          rw [hx] at hi'
          have hi' := Option.some.inj hi'
          injection hi' with _ _ h3
          injection h3 with _ h3
          exact e h3.symm
      refine gal_op hr ho' hg hd hop hzr hu fun cs e E' hE' hcs hheap g1 => ?_
      have hsz' : E'.w.heap.size = E.w.heap.size + 1 := by rw [hheap]; simp
      have hpush : ∀ k, k < E.w.heap.size → E'.w.heap[k]? = E.w.heap[k]? := fun k hk => by rw [hheap, Array.getElem?_push, if_neg (by omega)]
      have htn : (a.put (some t) (.pointer (some ⟨E.w.heap.size, 0, none⟩))).tmps.getD t undef = .pointer (some ⟨E.w.heap.size, 0, none⟩) := by
        have : t < a.tmps.size := by rw [hr.tr.size]; exact hlt3
        simp [Act.put, Array.getD, this]
      have hto : ∀ t', t' ≠ t → (a.put (some t) (.pointer (some ⟨E.w.heap.size, 0, none⟩))).tmps.getD t' undef = a.tmps.getD t' undef := fun t' ht => put_ne fun e => ht (Option.some.inj e).symm
      have hXn : X.H E.w.heap.size = none := by
        cases hq : X.H E.w.heap.size with
        | none => rfl
        | some o => exact absurd (hidlt _ _ (hpd.base _ o hq)) (Nat.lt_irrefl _)
      refine ih _ s' E' _ _ (by simpa using hsz) (hupd ▸ hA') hc' hf' g1 ?_ (hE.stepH (by rw [hE']) (by rw [hE']) (by rw [hE']) (fun c hc => hpush c ?_) fun c hc => hpush c (Nat.lt_of_lt_of_le hc hz)) (by omega)
      · rw [hupd]
        refine ⟨fun c o hc => ?_, fun t' n' h => ?_, fun t1 n1 t2 n2 c h1 h2 e1 e2 => ?_, fun c o hc => ?_⟩
        · have := hidlt c o (hpd.base c o hc)
          simp only [if_neg (show ¬ c = E.w.heap.size by omega)]
          exact hpd.base c o hc
        · rcases hpen t' n' h with ⟨hne, h⟩ | ⟨rfl, rfl⟩
          · obtain ⟨c, cs, e, h1, h2, h3, h4, h5⟩ := hpd.at_ t' n' h
            have := hidlt c _ h3
            refine ⟨c, cs, e, by rw [hto t' hne]; exact h1, h2, ?_, h4, h5⟩
            simp only [if_neg (show ¬ c = E.w.heap.size by omega)]
            exact h3
          · exact ⟨E.w.heap.size, cs, e, htn, hXn, by simp, hcs, hz⟩
        · have old : ∀ t' n', t' ≠ t → pen l (fun j => listed.getD j false) t' n' → (a.put (some t) (.pointer (some ⟨E.w.heap.size, 0, none⟩))).tmps.getD t' undef ≠ .pointer (some ⟨E.w.heap.size, 0, none⟩) := by
            intro t' n' hne h e
            rw [hto t' hne] at e
            obtain ⟨c, cs, e', h1, h2, h3, h4, h5⟩ := hpd.at_ t' n' h
            rw [h1] at e
            simp at e
            have := hidlt c _ h3
            omega
          rcases hpen t1 n1 h1 with ⟨hne1, k1⟩ | ⟨rfl, rfl⟩
          · rcases hpen t2 n2 h2 with ⟨hne2, k2⟩ | ⟨rfl, rfl⟩
            · rw [hto t1 hne1] at e1
              rw [hto t2 hne2] at e2
              exact hpd.inj t1 n1 t2 n2 c k1 k2 e1 e2
            · rw [htn] at e2
              rw [← e2] at e1
              exact absurd e1 (old t1 n1 hne1 k1)
          · rcases hpen t2 n2 h2 with ⟨hne2, k2⟩ | ⟨rfl, rfl⟩
            · rw [htn] at e1
              rw [← e1] at e2
              exact absurd e2 (old t2 n2 hne2 k2)
            · rfl
        · by_cases e : c = E.w.heap.size
          · refine .inr ⟨t, n, ⟨⟨i, none, none, hx, by simp [updS]⟩, fun j x hj hd => upd_off j (hpre' j x hj hd) ?_⟩, by rw [e]; exact htn⟩
            rintro rfl
            rw [hx] at hj
            have hj := Option.some.inj hj
            subst hj
            simp [Ins.dst] at hd
          · simp only [if_neg e] at hc
            rcases hpd.back c o hc with h | ⟨t', n', h, e'⟩
            · exact .inl h
            · have hne : t' ≠ t := fun e => hnp n' (e ▸ h)
              refine .inr ⟨t', n', ⟨?_, fun j x hj hd => upd_off j (h.2 j x hj hd) ?_⟩, by rw [hto t' hne]; exact e'⟩
              · obtain ⟨i', d', g', h1, h2⟩ := h.1
                exact ⟨i', d', g', h1, upd_of i' h2⟩
              · rintro rfl
                rw [hx] at hj
                have hj := Option.some.inj hj
                subst hj
                simp [Ins.dst] at hd
      · obtain ⟨b, h1, h2⟩ := hc
        obtain ⟨y, hy⟩ := Option.isSome_iff_exists.1 h1
        have := hr.wr.lt hy
        omega
    · have hSj : listed.getD j1 false = true := hp j1 hpj
      have hpt : pen l (fun j => listed.getD j false) t n := by
        refine ⟨⟨j1, none, none, hj1, hSj⟩, fun j x hj hdx => ?_⟩
        have := D.dst j i x _ t hj hx hdx rfl
        subst this
        exact hS
      obtain ⟨c, cs, e, h1, h2, h3, h4, h5⟩ := hpd.at_ t n hpt
      have hs2 : ∃ w is, ev s y = .v w ∧ w.cells.length = n ∧ traverse cellI w.cells = some is ∧ s' = s.put (some t) (V (.lp 0 is)) := by
        simp only [insI, insV, want, opK, step] at hs'
        cases hq : ev s y with
        | v w =>
          rw [hq] at hs'
          by_cases hl : w.cells.length = n
          · simp only [if_pos hl] at hs'
            cases hi : traverse cellI w.cells with
            | none => rw [hi] at hs'; simp at hs'
            | some is =>
              rw [hi] at hs'
              simp only [Option.some.injEq] at hs'
              exact ⟨w, is, rfl, hl, hi, hs'.symm⟩
          · simp [if_neg hl] at hs'
        | _ => rw [hq] at hs'; simp at hs'
      obtain ⟨w, is, hy, hwl, hwi, rfl⟩ := hs2
      have hpen : ∀ t' n', pen l (updS (fun j => listed.getD j false) i) t' n' → t' ≠ t ∧ pen l (fun j => listed.getD j false) t' n' := by
        rintro t' n' ⟨⟨i', d', g', hi', k1⟩, k2⟩
        refine ⟨?_, ⟨i', d', g', hi', upd_ne i' k1 ?_⟩, fun j x hj hd => upd_false j (k2 j x hj hd)⟩
        · rintro rfl
          have := k2 i _ hx rfl
          simp [updS] at this
        · rintro rfl
          rw [hx] at hi'
          have hi' := Option.some.inj hi'
          injection hi' with _ _ h3
          simp at h3
      refine gst_op hr ho' hg hd hop hxo hty h1 h3 h4 hy hwl hwi fun E' k1 k2 k3 k4 k5 k6 k7 k8 => ?_
      refine ih _ _ E' a _ (by simpa using hsz) (hupd ▸ hA') hc' hf' k8 ?_ (hE.stepH k1 k2 k3 (fun k hk => k4 k fun e => k6 (e ▸ hk)) fun k hk => k4 k (by omega)) (by omega)
      rw [hupd]
      refine ⟨fun c' o hc' => ?_, fun t' n' h => ?_, fun t1 n1 t2 n2 c r1 r2 e1 e2 => ?_, fun c' o hc' => ?_⟩
      · have : c' ≠ c := by rintro rfl; rw [h2] at hc'; simp at hc'
        simp only [if_neg this]
        exact hpd.base c' o hc'
      · obtain ⟨hne, h⟩ := hpen t' n' h
        obtain ⟨c', cs', e', q1, q2, q3, q4, q5⟩ := hpd.at_ t' n' h
        have : c' ≠ c := by
          rintro rfl
          exact hne (hpd.inj t' n' t n c' h hpt q1 h1)
        refine ⟨c', cs', e', q1, q2, ?_, q4, q5⟩
        simp only [if_neg this]
        exact q3
      · exact hpd.inj t1 n1 t2 n2 c (hpen t1 n1 r1).2 (hpen t2 n2 r2).2 e1 e2
      · by_cases e0 : c' = c
        · simp [e0] at hc'
        · simp only [if_neg e0] at hc'
          rcases hpd.back c' o hc' with h | ⟨t', n', h, e'⟩
          · exact .inl h
          · have hne : t' ≠ t := by
              rintro rfl
              rw [h1] at e'
              exact e0 (by simpa using e'.symm)
            refine .inr ⟨t', n', ⟨?_, fun j x hj hd => upd_off j (h.2 j x hj hd) ?_⟩, e'⟩
            · obtain ⟨i', d', g', q1, q2⟩ := h.1
              exact ⟨i', d', g', q1, upd_of i' q2⟩
            · rintro rfl
              rw [hx] at hj
              have hj := Option.some.inj hj
              subst hj
              have hd : some t = some t' := hd
              exact hne (Option.some.inj hd).symm

/-- A REGION THAT DRAWS ITS ORDER. -/
theorem draw_sound (hR : RunOk P G R) (hG : GOk X G) {ops : Array Oper} (hk : okDraw P ops l pre = true) {s s' : St} (ht : trail G R l s = some (ss, hs)) (hdyn : drawDyn G R l pre ss hs = true) (hl : ss.getLast? = some s') {Q : Exit → Act → World → Prop} {E : Env} {a : Act} (hr : Rel X E s a) {id : Nat}
    (hQ : ∀ E' a', Rel X E' s' a' → Ext X E E' → E.w.heap.size ≤ E'.w.heap.size → Q .normal a' E'.w) : (Code.region id ops true).wp P Q a E.w := by
  have hk' := hk
  simp only [okDraw, Bool.and_eq_true, beq_iff_eq, List.all_eq_true, List.mem_range] at hk'
  obtain ⟨⟨⟨⟨hm, hlen⟩, hst⟩, hpre⟩, hins⟩ := hk'
  have D := Draw.of hst
  have C := Canon.of (fun x hx => by
    obtain ⟨i, hi⟩ := List.mem_iff_getElem?.1 hx
    obtain ⟨d, g, k, rfl⟩ := D.op i x hi
    rfl) ht
  have hx : Ext X E { E with w := { E.w with drawn := E.w.drawn + 1 } } :=
    ⟨Nat.le_refl _, fun _ _ _ h => ⟨h, rfl, fun cc e fr h => ⟨cc, e, fr, h, rfl⟩⟩, fun _ _ _ h => ⟨h, rfl⟩⟩
  have hE : Rel X { E with w := { E.w with drawn := E.w.drawn + 1 } } s a :=
    ⟨hr.h, hr.ct, ⟨fun b x h => ⟨(hr.wr.blk b x h).1.ext hx rfl rfl, (hr.wr.blk b x h).2⟩, hr.wr.inj, hr.wr.size, hr.wr.still, hr.wr.os, hr.wr.tape, hr.wr.output, hr.wr.f1, hr.wr.a0, hr.wr.hid⟩, hr.tr.ext hx rfl⟩
  have hn : ss[l.length]? = some s' := by
    rw [List.getLast?_eq_getElem?, C.len] at hl
    exact hl
  have key : ∀ md t, wpOps P ops Q (Region.linearise md ops t) a { E.w with drawn := E.w.drawn + 1 } := fun md t => by
    refine wpAny_sound ops.size t _ a _ (draw_go hR hG hk C hdyn hn md (E0 := { E with w := { E.w with drawn := E.w.drawn + 1 } }) (fun E' a' h1 h2 h3 => hQ E' a' h1 (hx.trans h2 (Nat.le_refl _)) h3) ops.size _ s { E with w := { E.w with drawn := E.w.drawn + 1 } } a X.H (by simp) ?_ ?_ ?_ hE ?_ (Ext.refl X _) (Nat.le_refl _))
    · refine ⟨rfl, fun j x t hj => ?_, fun _ _ => rfl, ?_⟩
      · simp [Array.getD, Array.getElem_replicate] at hj
      · have := C.mem 0 s (Nat.zero_le _) C.at0
        rw [← this]
        congr 1
        apply cntS_congr
        intro j _
        simp [ltS, Array.getD, Array.getElem_replicate]
    · intro j k hj
      simp [Array.getD, Array.getElem_replicate] at hj
    · have := List.countP_le_length (p := fun j => !(Array.replicate ops.size false).getD j false) (l := List.range ops.size)
      simpa using this
    · refine ⟨fun _ _ h => h, fun t n h => ?_, fun t n t' n' c h => ?_, fun _ _ h => .inl h⟩
      · obtain ⟨⟨i, d, g, _, h⟩, _⟩ := h
        simp [Array.getD, Array.getElem_replicate] at h
      · obtain ⟨⟨i, d, g, _, h⟩, _⟩ := h
        simp [Array.getD, Array.getElem_replicate] at h
  refine wp_region_draw fun t => ?_
  unfold Region.schedule
  split
  · exact key _ _
  · exact key _ _

end
end Go.Abs
