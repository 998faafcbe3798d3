/-
  The abstract machine: more rounds and more depth tell the same.
-/
import Derived.Test.YtcbepglkfglclaaDoorHAbsO
namespace Go.Abs

def Run.le (R R' : Run) : Prop := ∀ f args bs r, R f args bs = some r → R' f args bs = some r

section
variable {G : Nat → List IV} {R R' : Run}

theorem doCall_mono (h : R.le R') {s : St} {f : Nat} {args : List A1} {how : How} {r : AV × Heap × Nat} (e : doCall R s f args how = some r) : doCall R' s f args how = some r := by
  unfold doCall at e ⊢
  by_cases hp : how.pure = true
  · simp only [hp, if_true] at e ⊢
    split at e
    · split at e
      · rename_i rs hh hr
        rw [h _ _ _ _ hr]
        exact e
      · simp at e
    · simp at e
  · simp only [hp, if_false] at e ⊢
    simp only [Bool.false_eq_true, if_false] at e ⊢
    split at e
    · split at e
      · rename_i rs hh hr
        rw [h _ _ _ _ hr]
        exact e
      · simp at e
    · simp at e

theorem opK_mono (h : R.le R') {s : St} {d : Nat} {k : K} {r : AV × Heap × Nat} (e : opK G R s d k = some r) : opK G R' s d k = some r := by
  cases k
  case call =>
    simp only [opK] at e ⊢
    split at e
    · exact doCall_mono h e
    · simp at e
  case callv =>
    simp only [opK] at e ⊢
    split at e
    · exact doCall_mono h e
    · exact doCall_mono h e
    · simp at e
  all_goals exact e

theorem insV_mono (h : R.le R') {s : St} {d : Option Nat} {g : Option (Nat × Bool)} {k : K} {r : AV × Heap × Nat} (e : insV G R s d g k = some r) : insV G R' s d g k = some r := by
  unfold insV at e ⊢
  split at e
  · exact opK_mono h e
  · exact e
  · exact e

theorem insI_mono (h : R.le R') {s : St} {i : Ins} {r : St} (e : insI G R s i = some r) : insI G R' s i = some r := by
  cases i
  case op =>
    simp only [insI] at e ⊢
    split at e
    · rename_i q hq
      rw [insV_mono h hq]
      exact e
    · simp at e
  all_goals exact e

theorem insL_mono (h : R.le R') : ∀ {l : List Ins} {s r : St}, insL G R l s = some r → insL G R' l s = some r
  | [], s, r, e => e
  | i :: l, s, r, e => by
    simp only [insL] at e ⊢
    split at e
    · rename_i s1 h1
      rw [insI_mono h h1]
      exact insL_mono h e
    · simp at e

theorem trail_mono (h : R.le R') : ∀ {l : List Ins} {s : St} {r : List St × List (Heap × Nat)}, trail G R l s = some r → trail G R' l s = some r
  | [], s, r, e => e
  | i :: l, s, r, e => by
    simp only [trail] at e ⊢
    split at e
    · rename_i s1 h1
      rw [insI_mono h h1]
      simp only
      split at e
      · rename_i ss hs h2
        rw [trail_mono h h2]
        exact e
      · simp at e
    · simp at e

theorem stableAt_mono (h : R.le R') {x : Ins} {s : St} {m : Heap × Nat} (e : stableAt G R x s m = true) : stableAt G R' x s m = true := by
  cases x
  case op =>
    simp only [stableAt] at e ⊢
    split at e
    · rename_i r r' h1 h2
      rw [insV_mono h h1, insV_mono h h2]
      exact e
    · simp at e
  all_goals exact e

theorem drawDyn_mono (h : R.le R') {l : List Ins} {pre : List (List Nat)} {ss : List St} {hs : List (Heap × Nat)} (e : drawDyn G R l pre ss hs = true) : drawDyn G R' l pre ss hs = true := by
  simp only [drawDyn, List.all_eq_true, List.mem_range] at e ⊢
  intro i hi
  have := e i hi
  split at this
  · simp only [Bool.or_eq_true, beq_iff_eq, List.all_eq_true, List.mem_range] at this ⊢
    rcases this with h1 | h1 | h1
    · exact .inl h1
    · exact .inr (.inl h1)
    · refine .inr (.inr fun c hc => ?_)
      have := h1 c hc
      split at this
      · exact stableAt_mono h this
      · simp at this
  · simp at this

theorem loopN_mono {f g : St → Option (Ex × St)} (h : ∀ s r, f s = some r → g s = some r) : ∀ {n m : Nat} {s : St} {r : Ex × St}, n ≤ m → loopN f n s = some r → loopN g m s = some r
  | 0, m, s, r, _, e => by simp [loopN] at e
  | n + 1, 0, s, r, hm, e => by omega
  | n + 1, m + 1, s, r, hm, e => by
    simp only [loopN] at e ⊢
    split at e
    · rename_i s1 h1
      rw [h _ _ h1]
      exact loopN_mono h (Nat.le_of_succ_le_succ hm) e
    · rename_i hne
      have := h _ _ e
      rw [this]
      split
      · rename_i s1 h2
        simp at h2
        subst h2
        exact absurd e (hne _)
      · rfl

theorem exec_mono (h : R.le R') {n m : Nat} (hn : n ≤ m) : ∀ {x : IR} {s : St} {r : Ex × St}, exec G R n x s = some r → exec G R' m x s = some r
  | .skip, s, r, e => e
  | .reg l, s, r, e => by
    simp only [exec] at e ⊢
    split at e
    · rename_i s1 h1
      rw [insL_mono h h1]
      exact e
    · simp at e
  | .regD l pre, s, r, e => by
    simp only [exec] at e ⊢
    split at e
    · rename_i ss hs h1
      rw [trail_mono h h1]
      simp only
      split at e
      · rename_i hd
        rw [drawDyn_mono h hd]
        exact e
      · simp at e
    · simp at e
  | .ghost l a, s, r, e => by
    simp only [exec] at e ⊢
    split at e
    · rename_i s1 h1
      rw [insL_mono h h1]
      exact exec_mono h hn e
    · simp at e
  | .seq a b, s, r, e => by
    simp only [exec] at e ⊢
    split at e
    · rename_i s1 h1
      rw [exec_mono h hn h1]
      exact exec_mono h hn e
    · rename_i hne
      rw [exec_mono h hn e]
      split
      · rename_i s1 h2
        simp at h2
        subst h2
        exact absurd e (hne _)
      · rfl
  | .cond x a b, s, r, e => by
    simp only [exec] at e ⊢
    split at e
    · exact exec_mono h hn e
    · exact exec_mono h hn e
    · simp at e
  | .block id a, s, r, e => by
    simp only [exec] at e ⊢
    split at e
    · rename_i i s1 h1
      rw [exec_mono h hn h1]
      exact e
    · rename_i hne
      rw [exec_mono h hn e]
      split
      · rename_i i s1 h2
        simp at h2
        subst h2
        exact absurd e (hne _ _)
      · rfl
  | .loop a, s, r, e => by
    simp only [exec] at e ⊢
    exact loopN_mono (fun s r => exec_mono h hn) hn e
  | .exit id, s, r, e => e
  | .ret, s, r, e => e

theorem run_mono {F : Nat → Option Fn} {X : Run} {n m : Nat} (hn : n ≤ m) : ∀ {d e : Nat}, d ≤ e → (run G F X n d).le (run G F X m e)
  | 0, e, _ => fun f args bs r h => by simp [run] at h
  | d + 1, 0, hd => by omega
  | d + 1, e + 1, hd => fun f args bs r h => by
    simp only [run] at h ⊢
    split at h
    · rename_i hf
      exact h
    · rename_i fn hf
      have ih := run_mono (F := F) (X := X) hn (Nat.le_of_succ_le_succ hd)
      split at h
      · simp at h
      · rename_i ex s1 hne h1
        rw [exec_mono ih hn h1]
        cases ex with
        | exit i => exact absurd rfl (hne i)
        | normal => exact h
        | ret => exact h
      · simp at h

end
end Go.Abs
