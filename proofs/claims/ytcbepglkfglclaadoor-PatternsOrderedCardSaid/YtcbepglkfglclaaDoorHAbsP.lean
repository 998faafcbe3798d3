/-
  The abstract machine beside Go's model: a region that draws its order comes to what the text's order comes to.
-/
import Derived.Test.YtcbepglkfglclaaDoorHAbsO
namespace Go.Abs
open Go.RowKit

structure Draw (l : List Ins) (pre : List (List Nat)) : Prop where
  op : ∀ (i : Nat) (x : Ins), l[i]? = some x → ∃ d g k, x = .op d g k
  dst : ∀ (i j : Nat) (x y : Ins) (t : Nat), l[i]? = some x → l[j]? = some y → x.dst = some t → y.dst = some t → i = j
  rw_ : ∀ (i j : Nat) (x y : Ins) (t : Nat), l[i]? = some x → l[j]? = some y → x.dst = some t → t ∈ y.reads → i ≠ j → preHas pre i j = true ∨ preHas pre j i = true
  tt : ∀ (i j : Nat), turnAt l i = true → turnAt l j = true → i ≠ j → preHas pre i j = true ∨ preHas pre j i = true
  lt : ∀ i j : Nat, preHas pre i j = true → j < i

theorem Draw.of {l : List Ins} {pre : List (List Nat)} (h : drawStatic l pre = true) : Draw l pre := by
  simp only [drawStatic, Bool.and_eq_true, List.all_eq_true, beq_iff_eq, List.mem_range] at h
  obtain ⟨⟨⟨h1, h2⟩, h3⟩, h4⟩ := h
  have pair : ∀ (i j : Nat) (x y : Ins), l[i]? = some x → l[j]? = some y → i ≠ j →
      (x.dst.isNone = true ∨ x.dst ≠ y.dst) ∧ (preHas pre i j = true ∨ preHas pre j i = true ∨ ((∀ t, x.dst = some t → t ∉ y.reads) ∧ (∀ t, y.dst = some t → t ∉ x.reads) ∧ ¬ (x.turns = true ∧ y.turns = true))) := by
    have one : ∀ (i j : Nat) (x y : Ins), l[i]? = some x → l[j]? = some y → j < i →
      (x.dst.isNone = true ∨ x.dst ≠ y.dst) ∧ (preHas pre i j = true ∨ preHas pre j i = true ∨ ((∀ t, x.dst = some t → t ∉ y.reads) ∧ (∀ t, y.dst = some t → t ∉ x.reads) ∧ ¬ (x.turns = true ∧ y.turns = true))) := by
      intro i j x y hx hy hlt
      have hp := h3 i (List.getElem?_eq_some_iff.1 hx).1 j hlt
      simp only [pairOk, hx, hy, Bool.and_eq_true, Bool.or_eq_true, bne_iff_ne] at hp
      refine ⟨hp.1, ?_⟩
      rcases hp.2 with (h | h) | h
      · exact .inl h
      · exact .inr (.inl h)
      · refine .inr (.inr ⟨fun t ht hm => ?_, fun t ht hm => ?_, fun ⟨a, b⟩ => ?_⟩)
        · have := h.1.1; rw [ht] at this; simp [hm] at this
        · have := h.1.2; rw [ht] at this; simp [hm] at this
        · have := h.2; simp [a, b] at this
    intro i j x y hx hy hne
    rcases Nat.lt_or_ge j i with hlt | hge
    · exact one i j x y hx hy hlt
    · obtain ⟨h1, h2⟩ := one j i y x hy hx (by omega)
      refine ⟨?_, ?_⟩
      · cases hq : x.dst with
        | none => exact .inl rfl
        | some d =>
          refine .inr fun e => ?_
          rcases h1 with h1 | h1
          · rw [← e] at h1; simp at h1
          · exact h1 (by rw [← e, hq])
      · rcases h2 with h | h | ⟨a, b, c⟩
        · exact .inr (.inl h)
        · exact .inl h
        · exact .inr (.inr ⟨b, a, fun ⟨u, v⟩ => c ⟨v, u⟩⟩)
  refine ⟨fun i x hx => ?_, fun i j x y t hx hy h1 h2 => ?_, fun i j x y t hx hy h1 h2 hne => ?_, fun i j hi hj hne => ?_, fun i j h => ?_⟩
  · have := h1 x (List.mem_of_getElem? hx)
    cases x <;> simp [Ins.isOp] at this
    exact ⟨_, _, _, rfl⟩
  · rcases Nat.decEq i j with hne | he
    · rcases (pair i j x y hx hy hne).1 with h | h
      · rw [h1] at h; simp at h
      · exact absurd (h1.trans h2.symm) h
    · exact he
  · rcases (pair i j x y hx hy hne).2 with h | h | ⟨a, _, _⟩
    · exact .inl h
    · exact .inr h
    · exact absurd h2 (a t h1)
  · unfold turnAt at hi hj
    split at hi
    · rename_i x hx
      split at hj
      · rename_i y hy
        rcases (pair i j x y hx hy hne).2 with h | h | ⟨_, _, a⟩
        · exact .inl h
        · exact .inr h
        · exact absurd ⟨hi, hj⟩ a
      · simp at hj
    · simp at hi
  · unfold preHas at h
    split at h
    · rename_i p hp
      have := h4 (p, i) (by
        rw [List.mem_iff_getElem?]
        exact ⟨i, by simp [List.getElem?_zipIdx, hp]⟩)
      have := this j (by simpa using h)
      simpa using this
    · simp at h

def updS (S : Nat → Bool) (i : Nat) : Nat → Bool := fun j => S j || j == i

theorem countP_upd (S T : Nat → Bool) (i : Nat) (hS : S i = false) : ∀ n, (List.range n).countP (fun j => updS S i j && T j) = (List.range n).countP (fun j => S j && T j) + if i < n ∧ T i = true then 1 else 0
  | 0 => by simp
  | n + 1 => by
    rw [List.range_succ, List.countP_append, List.countP_append, countP_upd S T i hS n]
    simp only [List.countP_singleton]
    by_cases e : i = n
    · subst e
      simp [updS, hS]
    · have e2 : (n == i) = false := by simp; omega
      have e3 : (i < n + 1) ↔ (i < n) := by omega
      simp only [updS, e2, Bool.or_false, e3]
      omega

theorem cntS_upd {l : List Ins} {S : Nat → Bool} {i : Nat} (hS : S i = false) (hi : i < l.length) : cntS l (updS S i) = cntS l S + if turnAt l i = true then 1 else 0 := by
  rw [cntS, countP_upd S (turnAt l) i hS]
  simp [hi, cntS]

theorem cntS_congr {l : List Ins} {S T : Nat → Bool} (h : ∀ j, turnAt l j = true → S j = T j) : cntS l S = cntS l T := by
  unfold cntS
  apply List.countP_congr
  intro j _
  by_cases e : turnAt l j = true
  · rw [h j e]
  · simp [e]

theorem cntS_mono {l : List Ins} {S T : Nat → Bool} (h : ∀ j, turnAt l j = true → S j = true → T j = true) : cntS l S ≤ cntS l T := by
  unfold cntS
  apply List.countP_mono_left
  intro j _ hj
  simp at hj ⊢
  exact ⟨h j hj.2 hj.1, hj.2⟩

abbrev ltS (i : Nat) : Nat → Bool := fun j => decide (j < i)

section
variable {G : Nat → List IV} {R : Run}

structure Canon (G : Nat → List IV) (R : Run) (l : List Ins) (s0 : St) (ss : List St) (hs : List (Heap × Nat)) : Prop where
  at0 : ss[0]? = some s0
  step : ∀ (i : Nat) (x : Ins), l[i]? = some x → ∃ s s', ss[i]? = some s ∧ ss[i+1]? = some s' ∧ insI G R s x = some s'
  mem : ∀ (i : Nat) (s : St), i ≤ l.length → ss[i]? = some s → hs[cntS l (ltS i)]? = some (s.hp, s.ct)
  len : ss.length = l.length + 1

theorem cntS_cons (x : Ins) (l : List Ins) (i : Nat) : cntS (x :: l) (ltS (i + 1)) = cntS l (ltS i) + if x.turns = true then 1 else 0 := by
  have e : (List.range l.length).countP ((fun j => ltS (i + 1) j && turnAt (x :: l) j) ∘ Nat.succ) = (List.range l.length).countP (fun j => ltS i j && turnAt l j) := by
    apply List.countP_congr
    intro j _
    simp [turnAt, ltS]
  have f : (ltS (i + 1) 0 && turnAt (x :: l) 0) = x.turns := by simp [ltS, turnAt]
  unfold cntS
  rw [List.length_cons, List.range_succ_eq_map, List.countP_cons, List.countP_map, e, f]

theorem with_mem {s : St} {d : Option Nat} {r : AV × Heap × Nat} : (s.with d r).hp = r.2.1 ∧ (s.with d r).ct = r.2.2 := by
  cases d <;> simp [St.with, St.put]

theorem Canon.of : ∀ {l : List Ins} {s0 : St} {ss : List St} {hs : List (Heap × Nat)}, (∀ x ∈ l, x.isOp = true) → trail G R l s0 = some (ss, hs) → Canon G R l s0 ss hs
  | [], s0, ss, hs, _, h => by
    simp [trail] at h
    obtain ⟨rfl, rfl⟩ := h
    refine ⟨rfl, fun i x hx => by simp at hx, fun i s hi hs => ?_, rfl⟩
    simp at hi
    subst hi
    simp at hs
    subst hs
    simp [cntS]
  | x :: l, s0, ss, hs, hop, h => by
    simp only [trail] at h
    split at h
    · rename_i s1 hs1
      split at h
      · rename_i ss1 hh1 ht
        simp at h
        obtain ⟨rfl, rfl⟩ := h
        have ih := Canon.of (fun y hy => hop y (List.mem_cons_of_mem _ hy)) ht
        refine ⟨rfl, fun i y hy => ?_, fun i s hi hs => ?_, by simp [ih.len]⟩
        · cases i with
          | zero =>
            simp at hy
            subst hy
            exact ⟨s0, s1, rfl, by simpa using ih.at0, hs1⟩
          | succ i => exact ih.step i y (by simpa using hy)
        · cases i with
          | zero =>
            simp at hs
            subst hs
            have e : cntS (x :: l) (ltS 0) = 0 := by simp [cntS, ltS]
            rw [e]
            by_cases ht2 : x.turns = true
            · simp [ht2]
            · have m := ih.mem 0 s1 (Nat.zero_le _) ih.at0
              have e0 : cntS l (ltS 0) = 0 := by simp [cntS, ltS]
              rw [e0] at m
              simp only [ht2, Bool.false_eq_true, if_false]
              rw [m]
              have := hop x (List.mem_cons_self ..)
              cases x <;> simp [Ins.isOp] at this
              rename_i d g k
              simp only [insI] at hs1
              split at hs1
              · rename_i r hr
                simp at hs1
                subst hs1
                have hk : k.turns = false := by simpa [Ins.turns] using ht2
                have := insV_stays hk hr
                rw [with_mem.1, with_mem.2, this.1, this.2]
              · simp at hs1
          | succ i =>
            rw [cntS_cons]
            have m := ih.mem i s (by simpa using hi) (by simpa using hs)
            by_cases ht2 : x.turns = true
            · simp [ht2, m]
            · simp [ht2, m]
      · simp at h
    · simp at h

def wAt (G : Nat → List IV) (R : Run) (l : List Ins) (ss : List St) (i : Nat) : AV :=
  match l[i]?, ss[i]? with
  | some (.op d g k), some s => (match insV G R s d g k with | some r => r.1 | none => .und)
  | _, _ => .und

structure At (G : Nat → List IV) (R : Run) (l : List Ins) (s0 : St) (ss : List St) (hs : List (Heap × Nat)) (S : Nat → Bool) (s : St) : Prop where
  len : s.tm.length = s0.tm.length
  on : ∀ (j : Nat) (x : Ins) (t : Nat), S j = true → l[j]? = some x → x.dst = some t → t < s0.tm.length → s.get t = wAt G R l ss j
  off : ∀ t : Nat, (∀ (j : Nat) (x : Ins), S j = true → l[j]? = some x → x.dst ≠ some t) → s.get t = s0.get t
  mem : hs[cntS l S]? = some (s.hp, s.ct)

variable {l : List Ins} {pre : List (List Nat)} {s0 : St} {ss : List St} {hs : List (Heap × Nat)} {S : Nat → Bool} {s : St}

theorem with_get_ne {d : Option Nat} {r : AV × Heap × Nat} {t : Nat} (h : d ≠ some t) : (s.with d r).get t = s.get t := by
  cases d with
  | none => rfl
  | some d =>
    have : d ≠ t := fun e => h (by rw [e])
    simp [St.with, St.put, St.get, List.getD_eq_getElem?_getD, List.getElem?_set_ne this]

theorem with_get {r : AV × Heap × Nat} {t : Nat} (h : t < s.tm.length) : (s.with (some t) r).get t = r.1 := by
  simp [St.with, St.put, St.get, List.getD_eq_getElem?_getD, h]

theorem with_len {d : Option Nat} {r : AV × Heap × Nat} : (s.with d r).tm.length = s.tm.length := by
  cases d <;> simp [St.with, St.put]

theorem At.put (D : Draw l pre) (h : At G R l s0 ss hs S s) {i : Nat} {d : Option Nat} {g : Option (Nat × Bool)} {k : K} (hi : l[i]? = some (.op d g k)) {r : AV × Heap × Nat}
    (hr : r.1 = wAt G R l ss i) (hm : hs[cntS l (updS S i)]? = some (r.2.1, r.2.2)) : At G R l s0 ss hs (updS S i) (s.with d r) := by
  refine ⟨by rw [with_len]; exact h.len, fun j x t hj hx hd ht => ?_, fun t ht => ?_, by rw [hm, with_mem.1, with_mem.2]⟩
  · simp [updS] at hj
    by_cases e : j = i
    · subst e
      rw [hi] at hx
      simp at hx
      subst hx
      have hd : d = some t := hd
      subst hd
      rw [with_get (by rw [h.len]; exact ht), hr]
    · have hS : S j = true := hj.resolve_right e
      have : d ≠ some t := fun e2 => e (D.dst j i x _ t hx hi hd e2)
      rw [with_get_ne this]
      exact h.on j x t hS hx hd ht
  · have : d ≠ some t := fun e => ht i _ (by simp [updS]) hi e
    rw [with_get_ne this]
    exact h.off t fun j x hj hx => ht j x (by simp [updS, hj]) hx

theorem Canon.at_ (C : Canon G R l s0 ss hs) (D : Draw l pre) : ∀ (i : Nat) (s : St), i ≤ l.length → ss[i]? = some s → At G R l s0 ss hs (ltS i) s
  | 0, s, _, h => by
    have : s = s0 := by have := C.at0; rw [h] at this; simpa using this
    subst this
    exact ⟨rfl, fun j x t hj => by simp [ltS] at hj, fun _ _ => rfl, C.mem 0 s (Nat.zero_le _) h⟩
  | i + 1, s', hi, h => by
    have hlt : i < l.length := hi
    obtain ⟨x, hx⟩ : ∃ x, l[i]? = some x := ⟨l[i], by simp [hlt]⟩
    obtain ⟨s, s2, h1, h2, h3⟩ := C.step i x hx
    rw [h] at h2
    simp at h2
    subst h2
    obtain ⟨d, g, k, rfl⟩ := D.op i x hx
    have ih := C.at_ D i s (Nat.le_of_lt hlt) h1
    simp only [insI] at h3
    split at h3
    · rename_i r hr
      simp at h3
      subst h3
      have e : ltS (i + 1) = updS (ltS i) i := by
        funext j
        rw [Bool.eq_iff_iff]
        simp only [ltS, updS, Bool.or_eq_true, decide_eq_true_eq, beq_iff_eq]
        omega
      have hm := C.mem (i + 1) _ hi h
      rw [e, with_mem.1, with_mem.2] at hm
      rw [e]
      exact ih.put D hx (by simp [wAt, hx, h1, hr]) hm
    · simp at h3

theorem get_big {t : Nat} (h : s.tm.length ≤ t) : s.get t = .und := by
  simp [St.get, List.getD_eq_getElem?_getD, List.getElem?_eq_none h]

/-- One operation more. -/
theorem At.step (D : Draw l pre) (C : Canon G R l s0 ss hs) (hdyn : drawDyn G R l pre ss hs = true) (h : At G R l s0 ss hs S s)
    (hc : ∀ j k, S j = true → preHas pre j k = true → S k = true) {i : Nat} (hS : S i = false) (hp : ∀ k, preHas pre i k = true → S k = true) {x : Ins} (hi : l[i]? = some x) :
    ∃ s', insI G R s x = some s' ∧ At G R l s0 ss hs (updS S i) s' := by
  have hlt : i < l.length := (List.getElem?_eq_some_iff.1 hi).1
  obtain ⟨d, g, k, rfl⟩ := D.op i x hi
  obtain ⟨si, s2, h1, h2, h3⟩ := C.step i _ hi
  have Ai := C.at_ D i si (Nat.le_of_lt hlt) h1
  simp only [insI] at h3
  split at h3
  case h_2 => simp at h3
  rename_i rc hrc
  simp at h3
  have hw : wAt G R l ss i = rc.1 := by simp [wAt, hi, h1, hrc]
  have hreads : ∀ t ∈ (Ins.op d g k).reads, s.get t = si.get t := by
    intro t ht
    by_cases hex : ∃ (j : Nat) (x : Ins), l[j]? = some x ∧ x.dst = some t
    · obtain ⟨j, y, hy, hd⟩ := hex
      by_cases hbig : t < s0.tm.length
      · by_cases e : j = i
        · subst e
          rw [h.off t fun j' x' hj' hx' e' => by
              have := D.dst j' j x' y t hx' hy e' hd
              subst this
              rw [hS] at hj'; simp at hj',
            Ai.off t fun j' x' hj' hx' e' => by
              have := D.dst j' j x' y t hx' hy e' hd
              subst this
              simp [ltS] at hj']
        · rcases D.rw_ j i y _ t hy hi hd ht e with hq | hq
          · have hj : i < j := D.lt _ _ hq
            have hSj : S j = false := by
              cases hv : S j with
              | false => rfl
              | true => have := hc j i hv hq; rw [hS] at this; simp at this
            rw [h.off t fun j' x' hj' hx' e' => by
                have := D.dst j' j x' y t hx' hy e' hd
                subst this
                rw [hSj] at hj'; simp at hj',
              Ai.off t fun j' x' hj' hx' e' => by
                have := D.dst j' j x' y t hx' hy e' hd
                subst this
                simp [ltS] at hj'
                omega]
          · have hj : j < i := D.lt _ _ hq
            rw [h.on j y t (hp j hq) hy hd hbig, Ai.on j y t (by simp [ltS, hj]) hy hd hbig]
      · rw [get_big (by rw [h.len]; omega), get_big (by rw [Ai.len]; omega)]
    · rw [h.off t fun j' x' _ hx' e' => hex ⟨j', x', hx', e'⟩, Ai.off t fun j' x' _ hx' e' => hex ⟨j', x', hx', e'⟩]
  have same : cntS l S = cntS l (ltS i) → insV G R s d g k = some rc := fun e => by
    have m1 := h.mem
    have m2 := Ai.mem
    rw [e, m2] at m1
    simp at m1
    rw [insV_congr m1.1.symm m1.2.symm hreads]
    exact hrc
  by_cases ht : k.turns = true
  · have hti : turnAt l i = true := by simp [turnAt, hi, Ins.turns, ht]
    have e : cntS l S = cntS l (ltS i) := cntS_congr fun j hj => by
      by_cases e : j = i
      · subst e; simp [hS, ltS]
      · rcases D.tt j i hj hti e with hq | hq
        · have hj : i < j := D.lt _ _ hq
          have hSj : S j = false := by
            cases hv : S j with
            | false => rfl
            | true => have := hc j i hv hq; rw [hS] at this; simp at this
          simp [hSj, ltS]; omega
        · have hj : j < i := D.lt _ _ hq
          simp [hp j hq, ltS, hj]
    have hv := same e
    refine ⟨s.with d rc, by simp [insI, hv], h.put D hi hw.symm ?_⟩
    rw [cntS_upd hS hlt, e]
    have m := C.mem (i + 1) s2 hlt h2
    have e2 : ltS (i + 1) = updS (ltS i) i := by
      funext j
      rw [Bool.eq_iff_iff]
      simp only [ltS, updS, Bool.or_eq_true, decide_eq_true_eq, beq_iff_eq]
      omega
    rw [e2, cntS_upd (by simp [ltS]) hlt] at m
    rw [m, ← h3, with_mem.1, with_mem.2]
  · have ht : k.turns = false := by simpa using ht
    have hti : turnAt l i = false := by simp [turnAt, hi, Ins.turns, ht]
    have lo1 : loOf l pre i ≤ cntS l S := cntS_mono fun j _ hj => hp j hj
    have hi1 : cntS l S ≤ hiOf l pre i := cntS_mono fun j _ hj => by
      cases hq : preHas pre j i with
      | false => rfl
      | true => have := hc j i hj hq; rw [hS] at this; simp at this
    have lo2 : loOf l pre i ≤ cntS l (ltS i) := cntS_mono fun j _ hj => by have := D.lt _ _ hj; simp [ltS, this]
    have hi2 : cntS l (ltS i) ≤ hiOf l pre i := cntS_mono fun j _ hj => by
      cases hq : preHas pre j i with
      | false => rfl
      | true => have := D.lt _ _ hq; simp [ltS] at hj; omega
    have key : ∃ r, insV G R s d g k = some r ∧ r.1 = rc.1 := by
      simp only [drawDyn, List.all_eq_true, List.mem_range] at hdyn
      have hd := hdyn i hlt
      simp only [hi, h1, Ins.turns, ht, Bool.false_or, Bool.or_eq_true, beq_iff_eq, List.all_eq_true, List.mem_range] at hd
      rcases hd with hd | hd
      · exact ⟨rc, same (by omega), rfl⟩
      · have := hd (cntS l S - loOf l pre i) (by omega)
        have e : loOf l pre i + (cntS l S - loOf l pre i) = cntS l S := by omega
        rw [e, h.mem] at this
        simp only [stableAt] at this
        split at this
        · rename_i r r' hr hr'
          rw [hrc] at hr
          simp at hr
          subst hr
          refine ⟨r', ?_, eqAV_sound _ _ this⟩
          rw [← hr']
          exact insV_congr (s := s) (s' := { si with hp := s.hp, ct := s.ct }) rfl rfl hreads
        · simp at this
    obtain ⟨r, hr, hr1⟩ := key
    refine ⟨s.with d r, by simp [insI, hr], h.put D hi (hr1.trans hw.symm) ?_⟩
    rw [cntS_upd hS hlt]
    simp only [hti, Bool.false_eq_true, if_false, Nat.add_zero]
    have := insV_stays ht hr
    rw [this.1, this.2, h.mem]

theorem St.ext_get {a b : St} (h1 : a.tm.length = b.tm.length) (h2 : ∀ t < a.tm.length, a.get t = b.get t) (h3 : a.hp = b.hp) (h4 : a.ct = b.ct) : a = b := by
  obtain ⟨ta, ha, ca⟩ := a
  obtain ⟨tb, hb, cb⟩ := b
  simp only [] at h1 h2 h3 h4
  subst h3; subst h4
  have : ta = tb := by
    apply List.ext_getElem? 
    intro t
    rcases Nat.lt_or_ge t ta.length with hlt | hge
    · have := h2 t hlt
      simp only [St.get, List.getD_eq_getElem?_getD] at this
      rw [List.getElem?_eq_getElem hlt, List.getElem?_eq_getElem (h1 ▸ hlt)] at this ⊢
      simpa using this
    · rw [List.getElem?_eq_none hge, List.getElem?_eq_none (h1 ▸ hge)]
  rw [this]

end

/-- An order of the operations in which each stands behind those that it waits for. -/
def okOrd (ops : Array Oper) (md : Region.Mode) : List Nat → List Nat → Bool
  | seen, [] => (List.range ops.size).all fun i => seen.contains i
  | seen, i :: l => (match ops[i]? with | some o => o.after.toList.all fun e => !Region.binds md e || seen.contains e.on | none => false) && okOrd ops md (i :: seen) l

def okModes (ops : Array Oper) : Bool := [Region.Mode.any, .text, .gc].all fun md => okOrd ops md [] (Region.linearise md ops 0)

def okPre (ops : Array Oper) (pre : List (List Nat)) : Bool :=
  (List.range ops.size).all fun i => match ops[i]?, pre[i]? with
    | some o, some p => p.all fun j => o.after.toList.any fun e => Region.binds .any e && (e.on == j || preHas pre e.on j)
    | _, _ => false

def okDraw (P : Program) (ops : Array Oper) (l : List Ins) (pre : List (List Nat)) : Bool :=
  okModes ops && l.length == ops.size && drawStatic l pre && okPre ops pre && (List.range l.length).all fun i => match l[i]? with | some x => okIns P ops i x | none => false

section
variable {P : Program} {X : Cx} {G : Nat → List IV} {R : Run} {l : List Ins} {pre : List (List Nat)} {s0 : St} {ss : List St} {hs : List (Heap × Nat)}

theorem binds_any {md : Region.Mode} {e : Edge} (h : Region.binds .any e = true) : Region.binds md e = true := by
  unfold Region.binds at h ⊢
  split <;> simp_all

theorem draw_ord {ops : Array Oper} {md : Region.Mode} {listed : Array Bool} (hr : Region.ready md ops listed = []) (hsz : listed.size = ops.size) : ∀ (l seen : List Nat), okOrd ops md seen l = true → (∀ j ∈ seen, listed.getD j false = true) → ∀ i, i < ops.size → listed.getD i false = true
  | [], seen, h, hs, i, hi => by
    simp only [okOrd, List.all_eq_true, List.mem_range] at h
    exact hs i (by simpa using h i hi)
  | k :: l, seen, h, hs, i, hi => by
    simp only [okOrd, Bool.and_eq_true] at h
    refine draw_ord hr hsz l (k :: seen) h.2 (fun j hj => ?_) i hi
    rcases List.mem_cons.1 hj with rfl | hj
    · have h1 := h.1
      split at h1
      · rename_i o ho
        cases hq : listed.getD j false with
        | true => rfl
        | false =>
          have : j ∈ Region.ready md ops listed := mem_ready.2 ⟨by
              have hlt : j < listed.size := hsz ▸ (Array.getElem?_eq_some_iff.1 ho).1
              simp [Array.getD, hlt] at hq ⊢
              exact hq, o, ho, fun e he hb => by
              simp only [List.all_eq_true, Bool.or_eq_true, Bool.not_eq_true'] at h1
              have := (h1 e (by simpa using he)).resolve_left (by simp [hb])
              exact hs e.on (by simpa using this)⟩
          rw [hr] at this
          simp at this
      · simp at h1
    · exact hs j hj

theorem draw_all {ops : Array Oper} (hm : okModes ops = true) {md : Region.Mode} {listed : Array Bool} (hr : Region.ready md ops listed = []) (hsz : listed.size = ops.size) : ∀ i, i < ops.size → listed.getD i false = true := by
  simp only [okModes, List.all_cons, List.all_nil, Bool.and_true, Bool.and_eq_true] at hm
  cases md with
  | any => exact draw_ord hr hsz _ [] hm.1 (by simp)
  | text => exact draw_ord hr hsz _ [] hm.2.1 (by simp)
  | gc => exact draw_ord hr hsz _ [] hm.2.2 (by simp)

theorem draw_go (hR : RunOk P G R) (hG : GOk X G) {ops : Array Oper} (hk : okDraw P ops l pre = true) (C : Canon G R l s0 ss hs) (hdyn : drawDyn G R l pre ss hs = true) {Q : Exit → Act → World → Prop} {sn : St} (hn : ss[l.length]? = some sn) (md : Region.Mode) :
    ∀ (fuel : Nat) (listed : Array Bool) (s : St) (E : Env) (a : Act), listed.size = ops.size → At G R l s0 ss hs (fun j => listed.getD j false) s →
      (∀ j k, listed.getD j false = true → preHas pre j k = true → listed.getD k false = true) → (List.range ops.size).countP (fun j => !listed.getD j false) ≤ fuel → Rel X E s a →
      (∀ E' a', Rel X E' sn a' → Ext X E E' → E.w.heap.size ≤ E'.w.heap.size → Q .normal a' E'.w) → wpAny P md ops Q fuel listed a E.w := by
  simp only [okDraw, Bool.and_eq_true, beq_iff_eq, List.all_eq_true, List.mem_range] at hk
  obtain ⟨⟨⟨⟨hmodes, hlen⟩, hst⟩, hpre⟩, hins⟩ := hk
  have D := Draw.of hst
  have done : ∀ (listed : Array Bool) (s : St), listed.size = ops.size → At G R l s0 ss hs (fun j => listed.getD j false) s → Region.ready md ops listed = [] → s = sn := by
    intro listed s hsz hA hr
    have all := draw_all hmodes hr hsz
    have An := C.at_ D l.length sn (Nat.le_refl _) hn
    have lt_of : ∀ (j : Nat) (x : Ins), l[j]? = some x → j < l.length := fun j x h => (List.getElem?_eq_some_iff.1 h).1
    have em : cntS l (fun j => listed.getD j false) = cntS l (ltS l.length) := cntS_congr fun j hj => by
      have hj : j < l.length := by
        unfold turnAt at hj
        split at hj
        · rename_i x hx; exact lt_of j x hx
        · simp at hj
      show listed.getD j false = ltS l.length j
      rw [all j (hlen ▸ hj)]
      simp [ltS, hj]
    have m := hA.mem
    rw [em, An.mem] at m
    simp at m
    refine St.ext_get (hA.len.trans An.len.symm) (fun t ht => ?_) m.1.symm m.2.symm
    by_cases hex : ∃ (j : Nat) (x : Ins), l[j]? = some x ∧ x.dst = some t
    · obtain ⟨j, x, hx, hd⟩ := hex
      rw [hA.on j x t (all j (hlen ▸ lt_of j x hx)) hx hd (hA.len ▸ ht), An.on j x t (by simp [ltS, lt_of j x hx]) hx hd (hA.len ▸ ht)]
    · rw [hA.off t fun j' x' _ hx' e' => hex ⟨j', x', hx', e'⟩, An.off t fun j' x' _ hx' e' => hex ⟨j', x', hx', e'⟩]
  intro fuel
  induction fuel with
  | zero =>
    intro listed s E a hsz hA hc hf hr hQ
    have hrd : Region.ready md ops listed = [] := by
      rw [List.eq_nil_iff_forall_not_mem]
      intro i hi
      obtain ⟨h0, o, ho, _⟩ := mem_ready.1 hi
      have hlt : i < ops.size := (Array.getElem?_eq_some_iff.1 ho).1
      have := List.countP_eq_zero.1 (Nat.le_zero.1 hf) i (List.mem_range.2 hlt)
      have hlt2 : i < listed.size := hsz ▸ hlt
      simp [Array.getD, hlt2] at this h0
      rw [h0] at this
      simp at this
    exact ⟨hrd, hQ E a (done listed s hsz hA hrd ▸ hr) (Ext.refl X E) (Nat.le_refl _)⟩
  | succ fuel ih =>
    intro listed s E a hsz hA hc hf hr hQ
    refine ⟨fun hrd => hQ E a (done listed s hsz hA hrd ▸ hr) (Ext.refl X E) (Nat.le_refl _), fun i hi => ?_⟩
    obtain ⟨h0, o, ho, hedge⟩ := mem_ready.1 hi
    have hlt : i < ops.size := (Array.getElem?_eq_some_iff.1 ho).1
    have hlt2 : i < listed.size := hsz ▸ hlt
    have hS : listed.getD i false = false := by simp [Array.getD, hlt2] at h0 ⊢; exact h0
    obtain ⟨x, hx⟩ : ∃ x, l[i]? = some x := ⟨l[i], by simp [hlen, hlt]⟩
    have hp : ∀ k, preHas pre i k = true → listed.getD k false = true := by
      intro k hk
      simp only [okPre, List.all_eq_true, List.mem_range] at hpre
      have h := hpre i hlt
      split at h
      · rename_i o' p ho' hp'
        rw [ho] at ho'
        simp at ho'
        subst ho'
        simp only [Bool.and_eq_true, List.all_eq_true, List.any_eq_true] at h
        obtain ⟨e, he, hb⟩ := h k (by simpa [preHas, hp'] using hk)
        simp only [Bool.or_eq_true, beq_iff_eq] at hb
        have hon := hedge e (by simpa using he) (binds_any hb.1)
        rcases hb.2 with rfl | hb2
        · exact hon
        · exact hc e.on k hon hb2
      · simp at h
    obtain ⟨s', hs', hA'⟩ := hA.step D C hdyn (fun j k hj hk => hc j k hj hk) hS hp hx
    have hupd : (fun j => (listed.setIfInBounds i true).getD j false) = updS (fun j => listed.getD j false) i := by
      funext j
      by_cases e : i = j
      · subst e; simp [updS, hlt2]
      · rw [getD_set_ne false e]
        have : (j == i) = false := by simp; exact fun h => e h.symm
        simp [updS, this]
    have hok := hins i (hlen ▸ hlt)
    rw [hx] at hok
    obtain ⟨d, g, k, rfl⟩ := D.op i x hx
    refine ins_op hR hG hr hok hs' fun E' a' g1 g2 g3 => ?_
    refine ih _ s' E' a' (by simpa using hsz) (hupd ▸ hA') ?_ ?_ g1 fun E'' a'' k1 k2 k3 => hQ E'' a'' k1 (g2.trans k2 g3) (Nat.le_trans g3 k3)
    · intro j k hj hk
      by_cases e : i = j
      · subst e; exact getD_set_true (hp k hk)
      · rw [getD_set_ne false e] at hj
        exact getD_set_true (hc j k hj hk)
    · have e3 : (fun j => !(listed.setIfInBounds i true).getD j false) = fun j => !(updS (fun j => listed.getD j false) i j) := by
        funext j
        rw [← congrFun hupd j]
      rw [e3]
      have e2 := countP_upd (fun j => !updS (fun j => listed.getD j false) i j) (fun _ => true) i (by simp [updS]) ops.size
      have e4 : (fun j => updS (fun j => !updS (fun j => listed.getD j false) i j) i j && true) = fun j => !listed.getD j false := by
        funext j
        by_cases e : j = i
        · subst e; simp only [updS, hS]; simp
        · have : (j == i) = false := by simp [e]
          simp only [updS, this]; simp
      rw [e4] at e2
      simp only [hlt, Bool.and_true, and_self, if_true] at e2
      omega

/-- A REGION THAT DRAWS ITS ORDER. -/
theorem draw_sound (hR : RunOk P G R) (hG : GOk X G) {ops : Array Oper} (hk : okDraw P ops l pre = true) {s s' : St} (ht : trail G R l s = some (ss, hs)) (hdyn : drawDyn G R l pre ss hs = true) (hl : ss.getLast? = some s') {Q : Exit → Act → World → Prop} {E : Env} {a : Act} (hr : Rel X E s a) {id : Nat}
    (hQ : ∀ E' a', Rel X E' s' a' → Ext X E E' → E.w.heap.size ≤ E'.w.heap.size → Q .normal a' E'.w) : (Code.region id ops true).wp P Q a E.w := by
  have hk' := hk
  simp only [okDraw, Bool.and_eq_true, beq_iff_eq, List.all_eq_true, List.mem_range] at hk'
  obtain ⟨⟨⟨⟨hm, hlen⟩, hst⟩, hpre⟩, hins⟩ := hk'
  have D := Draw.of hst
  have C := Canon.of (fun x hx => by
    obtain ⟨i, hi⟩ := List.mem_iff_getElem?.1 hx
    obtain ⟨d, g, k, rfl⟩ := D.op i x hi
    rfl) ht
  have hx : Ext X E { E with w := { E.w with drawn := E.w.drawn + 1 } } :=
    ⟨Nat.le_refl _, fun _ _ _ h => ⟨h, rfl, fun cc e fr h => ⟨cc, e, fr, h, rfl⟩⟩, fun _ _ _ h => ⟨h, rfl⟩⟩
  have hE : Rel X { E with w := { E.w with drawn := E.w.drawn + 1 } } s a :=
    ⟨hr.h, hr.ct, ⟨fun b x h => ⟨(hr.wr.blk b x h).1.ext hx rfl rfl, (hr.wr.blk b x h).2⟩, hr.wr.inj, hr.wr.size, hr.wr.still, hr.wr.os, hr.wr.tape, hr.wr.output, hr.wr.f1, hr.wr.a0⟩, hr.tr.ext hx rfl⟩
  have hn : ss[l.length]? = some s' := by
    rw [List.getLast?_eq_getElem?, C.len] at hl
    exact hl
  have key : ∀ md t, wpOps P ops Q (Region.linearise md ops t) a { E.w with drawn := E.w.drawn + 1 } := fun md t => by
    refine wpAny_sound ops.size t _ a _ (draw_go hR hG hk C hdyn hn md ops.size _ s { E with w := { E.w with drawn := E.w.drawn + 1 } } a (by simp) ?_ ?_ ?_ hE ?_)
    · refine ⟨rfl, fun j x t hj => ?_, fun _ _ => rfl, ?_⟩
      · simp [Array.getD, Array.getElem_replicate] at hj
      · have := C.mem 0 s (Nat.zero_le _) C.at0
        rw [← this]
        congr 1
        apply cntS_congr
        intro j _
        simp [ltS, Array.getD, Array.getElem_replicate]
    · intro j k hj
      simp [Array.getD, Array.getElem_replicate] at hj
    · have := List.countP_le_length (p := fun j => !(Array.replicate ops.size false).getD j false) (l := List.range ops.size)
      simpa using this
    · intro E' a' h1 h2 h3
      exact hQ E' a' h1 (hx.trans h2 (Nat.le_refl _)) h3
  refine wp_region_draw fun t => ?_
  unfold Region.schedule
  split
  · exact key _ _
  · exact key _ _

end
end Go.Abs
