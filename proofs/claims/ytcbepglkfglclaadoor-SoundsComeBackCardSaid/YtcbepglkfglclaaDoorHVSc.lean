/-
  What small functions come to: samples, bytes, comparisons.
-/
import Derived.Test.YtcbepglkfglclaaDoorHVSb
namespace Go.Proofs.YtcbepglkfglclaaDoor
open Go Go.Abs
set_option maxRecDepth 100000

/-- A slice of numbers, handed in. -/
abbrev lit (k : IntKind) (l : List Int) : IV := .lit 1 (l.map (.int k)) l.length

theorem s33 (l : List Int) (hl : l.length ≤ 20000) (h : ∀ x ∈ l, -32768 ≤ x ∧ x ≤ 32767) (lent : Bool) : pureCall L 33 [.c (I (lit .i64 l))] lent = some [.c (I (.int .i64 0))] := by
  refine pure_wq (fn := ir33) rfl (by simp [ir33]) fun Q hQ => ?_
  unfold ir33
  refine wpE_seq (wp_reg ?_)
  simp
  refine wpE_seq (wpE_seq (wp_reg ?_))
  simp
  refine wpE_if ?_
  have h0 : ¬ (20000 < (l.length : Int)) := by omega
  simp [h0]
  refine wpE_skip ?_
  simp
  refine wpE_seq (wpE_seq (wp_reg ?_))
  simp
  refine wpE_block (wpE_lp (fun k σ hp ct => ∃ i : Nat, i ≤ l.length ∧ k = l.length - i ∧ hp = [] ∧ σ 8 = V (lit .i64 l) ∧ σ 9 = V (.int .i64 l.length) ∧ σ 10 = V (.int .i64 i)) l.length ⟨0, by simp⟩ ?_)
  rintro J hJ k σ hp ct ⟨i, hi, rfl, rfl, h8, h9, h10⟩
  refine wpE_seq (wp_reg ?_)
  simp [h8, h9, h10]
  refine wpE_seq (wpE_if ?_)
  simp
  refine ⟨fun hlt => ?_, fun hge => ?_⟩
  · refine wpE_skip ?_
    simp
    refine wpE_seq (wpE_block (wpE_seq (wp_reg ?_)))
    have hx := h l[i] (List.getElem_mem hlt)
    simp (disch := omega) [h8, h9, h10, hlt, at1, lookAt, takeN, mk1]
    refine wpE_seq (wp_reg ?_)
    simp [s72, hx]
    refine wpE_if ?_
    simp
    refine wpE_skip ?_
    simp
    refine wp_reg ?_
    simp (disch := omega) [h8, h9, h10, wrap_i64]
    exact again_intro (l.length - (i + 1)) (by omega) (hJ _ _ _ _ ⟨i + 1, by omega, rfl, by simp [h8, h9]⟩)
  · refine wpE_exit ?_
    simp
    refine wpE_seq (wp_reg ?_)
    simp
    exact wpE_ret (by simp [hQ])
theorem s33n (lent : Bool) : pureCall L 33 [.c (I .nilS)] lent = some [.c (I (.int .i64 0))] :=
  pure_of_run (n := 3) (d := 3) ⟨[], by kernel_rfl⟩ (by simp)

theorem set_prefix {n i : Nat} {cs : List AC} {F : Nat → IV} {x : IV} (hn : cs.length = n) (hi : i < n) (h : ∀ j, j < i → cs[j]? = some (I (F j))) (hx : x = F i) : ∀ j, j < i + 1 → (cs.set i (I x))[j]? = some (I (F j)) := by
  intro j hj
  by_cases e : i = j
  · subst e; simp [hn, hi, hx]
  · rw [List.getElem?_set_ne e]; exact h j (by omega)

theorem all_prefix {n : Nat} {cs : List AC} {F : Nat → IV} (hn : cs.length = n) (h : ∀ j, j < n → cs[j]? = some (I (F j))) : cs = ((List.range n).map F).map I := by
  apply List.ext_getElem?
  intro j
  by_cases hj : j < n
  · rw [h j hj]; simp [List.getElem?_range hj]
  · rw [List.getElem?_eq_none (by omega), List.getElem?_eq_none (by simp; omega)]

theorem s27 (l : List Int) (hl : l.length ≤ 20000) (h : ∀ x ∈ l, 0 ≤ x ∧ x ≤ 255) (lent : Bool) : pureCall L 27 [.c (I (lit .u8 l))] lent = some [.c (I (.lit 0 ((l.map expand).map (.int .i64)) l.length)), .c (I (.int .i64 0))] := by
  refine pure_wq (fn := ir27) rfl (by simp [ir27]) fun Q hQ => ?_
  unfold ir27
  refine wpE_seq (wp_reg ?_)
  simp
  refine wpE_seq (wpE_seq (wp_reg ?_))
  simp
  refine wpE_if ?_
  have h0 : ¬ (20000 < (l.length : Int)) := by omega
  simp [h0]
  refine wpE_skip ?_
  simp
  refine wpE_seq (wp_reg ?_)
  have hb : 8 * l.length ≤ 70368744177664 ∧ l.length ≤ 70368744177664 := by omega
  simp [hb, Heap.set]
  refine wpE_seq (wpE_seq (wp_reg ?_))
  simp
  refine wpE_block (wpE_lp (fun k σ hp ct => ∃ (i : Nat) (cs : List AC), i ≤ l.length ∧ k = l.length - i ∧ hp = [(12, .cells 1 cs)] ∧ cs.length = l.length ∧ (∀ j, j < i → cs[j]? = some (I (.int .i64 (expand (l.getD j 0))))) ∧ σ 4 = .v (.c (.r (.sl 12 1 0 1 l.length))) ∧ σ 13 = V (lit .u8 l) ∧ σ 14 = V (.int .i64 l.length) ∧ σ 15 = V (.int .i64 i)) l.length ⟨0, _, by simp, rfl, rfl, by simp [rep_length], by simp, by simp, by simp, by simp, by simp⟩ ?_)
  rintro J hJ k σ hp ct ⟨i, cs, hi, rfl, rfl, hcs, hpre, h4, h13, h14, h15⟩
  refine wpE_seq (wp_reg ?_)
  simp [h14, h15]
  refine wpE_seq (wpE_if ?_)
  simp
  refine ⟨fun hlt => ?_, fun hge => ?_⟩
  · refine wpE_skip ?_
    simp
    refine wpE_seq (wpE_block (wpE_seq (wp_reg ?_)))
    have hx := h l[i] (List.getElem_mem hlt)
    simp (disch := omega) [h13, h15, hlt, at1, lookAt, takeN, mk1]
    refine wp_reg ?_
    have hlt' : i + 1 ≤ l.length := hlt
    simp [h4, s26 _ hx, hlt, hlt', lay_one, hcs]
    refine wp_reg ?_
    simp (disch := omega) [h4, h13, h14, h15, wrap_i64]
    exact again_intro (l.length - (i + 1)) (by omega) (hJ _ _ _ _ ⟨i + 1, _, by omega, rfl, rfl, by simp [hcs], set_prefix (F := fun j => .int .i64 (expand (l.getD j 0))) hcs hlt hpre (by simp [hlt]), by simp [h4, h13, h14]⟩)
  · refine wpE_exit ?_
    simp
    refine wpE_seq (wp_reg ?_)
    simp [h4]
    refine wpE_ret ?_
    simp
    refine hQ _ _ ?_
    have hcs2 := all_prefix (F := fun j => .int .i64 (expand (l.getD j 0))) hcs (fun j hj => hpre j (by omega))
    have hF : (List.range l.length).map (fun j => IV.int .i64 (expand (l.getD j 0))) = (l.map expand).map (.int .i64) := by
      apply List.ext_getElem?
      intro j
      by_cases hj : j < l.length
      · simp [List.getElem?_range hj, hj]
      · rw [List.getElem?_eq_none (by simp; omega), List.getElem?_eq_none (by simp; omega)]
    rw [hF] at hcs2
    subst hcs2
    simp only [traverse, back1_sl (h := [(12, .cells 1 (((l.map expand).map (IV.int .i64)).map I))]) (b := 12) (len := l.length) (lent := lent) (g := 1) (sz := 1) (vs := (l.map expand).map (.int .i64)) (Heap.row_one _ _ _) (by simp) (freshs_ints _ _), back1_int]
theorem eq_of_get {l m : List Int} (h : l.length = m.length) (hp : ∀ j, j < l.length → l.getD j 0 = m.getD j 0) : l = m := by
  apply List.ext_getElem? 
  intro j
  by_cases hj : j < l.length
  · have := hp j hj
    have hj2 : j < m.length := by omega
    simp only [List.getD_eq_getElem?_getD, List.getElem?_eq_getElem hj, List.getElem?_eq_getElem hj2, Option.getD_some] at this
    rw [List.getElem?_eq_getElem hj, List.getElem?_eq_getElem hj2, this]
  · rw [List.getElem?_eq_none (by omega), List.getElem?_eq_none (by omega)]

theorem s32 (l m : List Int) (hl : l.length ≤ 4611686018427387904) (lent : Bool) : pureCall L 32 [.c (I (lit .i64 l)), .c (I (lit .i64 m))] lent = some [.c (I (.bool (decide (l = m))))] := by
  refine pure_wq (fn := ir32) rfl (by simp [ir32]) fun Q hQ => ?_
  unfold ir32
  refine wpE_seq (wp_reg ?_)
  simp
  refine wpE_seq (wpE_seq (wp_reg ?_))
  simp
  refine wpE_if ?_
  simp
  refine ⟨fun hne => ?_, fun heq => ?_⟩
  · refine wpE_seq (wp_reg ?_)
    simp
    refine wpE_ret ?_
    have : l ≠ m := fun e => hne (by rw [e])
    simp [hQ, this]
  refine wpE_skip ?_
  simp
  refine wpE_seq (wpE_seq (wp_reg ?_))
  simp
  refine wpE_block (wpE_lp (fun k σ hp ct => ∃ i : Nat, i ≤ l.length ∧ k = l.length - i ∧ hp = [] ∧ (∀ j, j < i → l.getD j 0 = m.getD j 0) ∧ σ 0 = V (lit .i64 l) ∧ σ 1 = V (lit .i64 m) ∧ σ 12 = V (.int .i64 l.length) ∧ σ 13 = V (.int .i64 i)) l.length ⟨0, by simp⟩ ?_)
  rintro J hJ k σ hp ct ⟨i, hi, rfl, rfl, hpre, h0, h1, h12, h13⟩
  refine wpE_seq (wp_reg ?_)
  simp [h12, h13]
  refine wpE_seq (wpE_if ?_)
  simp
  refine ⟨fun hlt => ?_, fun hge => ?_⟩
  · refine wpE_skip ?_
    simp
    have hlt2 : i < m.length := by omega
    refine wpE_seq (wpE_block (wpE_seq (wp_reg ?_)))
    simp [h13]
    refine wpE_seq (wp_regD (by decide) (by decide) ?_)
    simp (disch := omega) [h0, h1, hlt, hlt2, at1, lookAt, takeN, mk1]
    refine wpE_if ?_
    simp
    refine ⟨fun hne => ?_, fun he => ?_⟩
    · refine wpE_seq (wp_reg ?_)
      simp
      refine wpE_ret ?_
      have : l ≠ m := fun e => hne (by subst e; rfl)
      simp [hQ, this]
    · refine wpE_skip ?_
      simp
      refine wp_reg ?_
      simp (disch := omega) [h13, wrap_i64]
      refine again_intro (l.length - (i + 1)) (by omega) (hJ _ _ _ _ ⟨i + 1, by omega, rfl, rfl, fun j hj => ?_, by simp [h0, h1, h12]⟩)
      by_cases e : j = i
      · subst e; simp [hlt, hlt2, he]
      · exact hpre j (by omega)
  · refine wpE_exit ?_
    simp
    refine wpE_seq (wp_reg ?_)
    simp
    have : l = m := eq_of_get (by omega) fun j hj => hpre j (by omega)
    exact wpE_ret (by simp [hQ, this])

theorem s24 (l m : List Int) (hl : l.length ≤ 4611686018427387904) (lent : Bool) : pureCall L 24 [.c (I (lit .u8 l)), .c (I (lit .u8 m))] lent = some [.c (I (.bool (decide (l = m))))] := by
  refine pure_wq (fn := ir24) rfl (by simp [ir24]) fun Q hQ => ?_
  unfold ir24
  refine wpE_seq (wp_reg ?_)
  simp
  refine wpE_seq (wpE_seq (wp_reg ?_))
  simp
  refine wpE_if ?_
  simp
  refine ⟨fun hne => ?_, fun heq => ?_⟩
  · refine wpE_seq (wp_reg ?_)
    simp
    refine wpE_ret ?_
    have : l ≠ m := fun e => hne (by rw [e])
    simp [hQ, this]
  refine wpE_skip ?_
  simp
  refine wpE_seq (wpE_seq (wp_reg ?_))
  simp
  refine wpE_block (wpE_lp (fun k σ hp ct => ∃ i : Nat, i ≤ l.length ∧ k = l.length - i ∧ hp = [] ∧ (∀ j, j < i → l.getD j 0 = m.getD j 0) ∧ σ 0 = V (lit .u8 l) ∧ σ 1 = V (lit .u8 m) ∧ σ 12 = V (.int .i64 l.length) ∧ σ 13 = V (.int .i64 i)) l.length ⟨0, by simp⟩ ?_)
  rintro J hJ k σ hp ct ⟨i, hi, rfl, rfl, hpre, h0, h1, h12, h13⟩
  refine wpE_seq (wp_reg ?_)
  simp [h12, h13]
  refine wpE_seq (wpE_if ?_)
  simp
  refine ⟨fun hlt => ?_, fun hge => ?_⟩
  · refine wpE_skip ?_
    simp
    have hlt2 : i < m.length := by omega
    refine wpE_seq (wpE_block (wpE_seq (wp_reg ?_)))
    simp [h13]
    refine wpE_seq (wp_regD (by decide) (by decide) ?_)
    simp (disch := omega) [h0, h1, hlt, hlt2, at1, lookAt, takeN, mk1]
    refine wpE_if ?_
    simp
    refine ⟨fun hne => ?_, fun he => ?_⟩
    · refine wpE_seq (wp_reg ?_)
      simp
      refine wpE_ret ?_
      have : l ≠ m := fun e => hne (by subst e; rfl)
      simp [hQ, this]
    · refine wpE_skip ?_
      simp
      refine wp_reg ?_
      simp (disch := omega) [h13, wrap_i64]
      refine again_intro (l.length - (i + 1)) (by omega) (hJ _ _ _ _ ⟨i + 1, by omega, rfl, rfl, fun j hj => ?_, by simp [h0, h1, h12]⟩)
      by_cases e : j = i
      · subst e; simp [hlt, hlt2, he]
      · exact hpre j (by omega)
  · refine wpE_exit ?_
    simp
    refine wpE_seq (wp_reg ?_)
    simp
    have : l = m := eq_of_get (by omega) fun j hj => hpre j (by omega)
    exact wpE_ret (by simp [hQ, this])
/-- The byte of a sample. -/
def isComp (x b : Int) : Prop := ∃ e, isExp (mag x) e ∧ b = comp x e
theorem isComp_fun {x b b' : Int} (h : isComp x b) (h' : isComp x b') : b = b' := by
  obtain ⟨e, ⟨h1, h2, h3, h4⟩, rfl⟩ := h
  obtain ⟨e', ⟨h1', h2', h3', h4'⟩, rfl⟩ := h'
  have : e = e' := by
    rcases pows e ⟨h1, h2⟩ with rfl | rfl | rfl | rfl | rfl | rfl | rfl | rfl <;> rcases pows e' ⟨h1', h2'⟩ with rfl | rfl | rfl | rfl | rfl | rfl | rfl | rfl <;> simp at h3 h4 h3' h4' ⊢ <;> omega
  rw [this]
theorem s25' (x b : Int) (h : -32768 ≤ x ∧ x ≤ 32767) (hb : isComp x b) (lent : Bool) : pureCall L 25 [.c (I (.int .i64 x))] lent = some [.c (I (.int .u8 b)), .c (I (.int .i64 0))] := by
  obtain ⟨e, h1, h2⟩ := s25 x h lent
  rw [h2, isComp_fun ⟨e, h1, rfl⟩ hb]

theorem s28 (l : List Int) (F : Int → Int) (hl : l.length ≤ 20000) (h : ∀ x ∈ l, -32768 ≤ x ∧ x ≤ 32767) (hF : ∀ x ∈ l, isComp x (F x)) (lent : Bool) :
    pureCall L 28 [.c (I (lit .i64 l))] lent = some [.c (I (.lit 0 ((l.map F).map (.int .u8)) l.length)), .c (I (.int .i64 0))] := by
  refine pure_wq (fn := ir28) rfl (by simp [ir28]) fun Q hQ => ?_
  unfold ir28
  refine wpE_seq (wp_reg ?_)
  simp
  refine wpE_seq (wpE_seq (wp_reg ?_))
  simp [s33 l hl h]
  refine wpE_seq (wp_reg ?_)
  simp
  refine wpE_if ?_
  simp
  refine wpE_skip ?_
  simp
  refine wpE_seq (wp_reg ?_)
  have hb : l.length ≤ 70368744177664 := by omega
  simp [hb, Heap.set]
  refine wpE_seq (wpE_seq (wp_reg ?_))
  simp
  refine wpE_block (wpE_lp (fun k σ hp ct => ∃ (i : Nat) (cs : List AC), i ≤ l.length ∧ k = l.length - i ∧ hp = [(15, .cells 1 cs)] ∧ cs.length = l.length ∧ (∀ j, j < i → cs[j]? = some (I (.int .u8 (F (l.getD j 0))))) ∧ σ 5 = .v (.c (.r (.sl 15 1 0 1 l.length))) ∧ σ 16 = V (lit .i64 l) ∧ σ 17 = V (.int .i64 l.length) ∧ σ 18 = V (.int .i64 i)) l.length ⟨0, _, by simp, rfl, rfl, by simp [rep_length], by simp, by simp, by simp, by simp, by simp⟩ ?_)
  rintro J hJ k σ hp ct ⟨i, cs, hi, rfl, rfl, hcs, hpre, h5, h16, h17, h18⟩
  refine wpE_seq (wp_reg ?_)
  simp [h17, h18]
  refine wpE_seq (wpE_if ?_)
  simp
  refine ⟨fun hlt => ?_, fun hge => ?_⟩
  · refine wpE_skip ?_
    simp
    refine wpE_seq (wpE_block (wpE_seq (wp_reg ?_)))
    have hx := h l[i] (List.getElem_mem hlt)
    have hc := hF l[i] (List.getElem_mem hlt)
    simp (disch := omega) [h16, h18, hlt, at1, lookAt, takeN, mk1]
    refine wp_reg ?_
    have hlt' : i + 1 ≤ l.length := hlt
    simp [h5, s25' _ _ hx hc, hlt, hlt', lay_one, hcs]
    refine wp_reg ?_
    simp (disch := omega) [h18, wrap_i64]
    exact again_intro (l.length - (i + 1)) (by omega) (hJ _ _ _ _ ⟨i + 1, _, by omega, rfl, rfl, by simp [hcs], set_prefix (F := fun j => .int .u8 (F (l.getD j 0))) hcs hlt hpre (by simp [hlt]), by simp [h5, h16, h17]⟩)
  · refine wpE_exit ?_
    simp
    refine wpE_seq (wp_reg ?_)
    simp [h5]
    refine wpE_ret ?_
    simp
    refine hQ _ _ ?_
    have hcs2 := all_prefix (F := fun j => .int .u8 (F (l.getD j 0))) hcs (fun j hj => hpre j (by omega))
    have hF : (List.range l.length).map (fun j => IV.int .u8 (F (l.getD j 0))) = (l.map F).map (.int .u8) := by
      apply List.ext_getElem?
      intro j
      by_cases hj : j < l.length
      · simp [List.getElem?_range hj, hj]
      · rw [List.getElem?_eq_none (by simp; omega), List.getElem?_eq_none (by simp; omega)]
    rw [hF] at hcs2
    subst hcs2
    simp only [traverse, back1_sl (h := [(15, .cells 1 (((l.map F).map (IV.int .u8)).map I))]) (b := 15) (len := l.length) (lent := lent) (g := 1) (sz := 1) (vs := (l.map F).map (.int .u8)) (Heap.row_one _ _ _) (by simp) (freshs_ints _ _), back1_int]

end Go.Proofs.YtcbepglkfglclaaDoor
