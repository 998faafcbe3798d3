/-
  The abstract machine: what functions come to, without a bound of rounds and depth.
-/
import Derived.Test.YtcbepglkfglclaaDoorHAbsU
namespace Go.Abs

section
variable {G : Nat → List IV}

/-- A run that a chain of runs comes to. -/
structure Lim (A : Nat → Run) (L : Run) : Prop where
  mono : ∀ {j k}, j ≤ k → (A j).le (A k)
  ex : ∀ f args bs r, L f args bs = some r → ∃ k, A k f args bs = some r

variable {A : Nat → Run} {L : Run}

theorem Lim.doCall (H : Lim A L) {s : St} {f : Nat} {args : List A1} {how : How} {r : AV × Heap × Nat} (e : doCall L s f args how = some r) : ∃ k, doCall (A k) s f args how = some r := by
  by_cases hp : how.pure = true
  · simp only [Abs.doCall, hp, if_true] at e ⊢
    split at e
    · split at e
      · rename_i rs hh hr
        obtain ⟨k, hk⟩ := H.ex _ _ _ _ hr
        refine ⟨k, ?_⟩
        rw [hk]
        exact e
      · simp at e
    · simp at e
  · simp only [Abs.doCall, hp] at e ⊢
    simp only [Bool.false_eq_true, if_false] at e ⊢
    split at e
    · split at e
      · rename_i rs hh hr
        obtain ⟨k, hk⟩ := H.ex _ _ _ _ hr
        refine ⟨k, ?_⟩
        rw [hk]
        exact e
      · simp at e
    · simp at e

theorem Lim.opK (H : Lim A L) {s : St} {d : Nat} {k : K} {r : AV × Heap × Nat} (e : opK G L s d k = some r) : ∃ j, opK G (A j) s d k = some r := by
  cases k
  case call =>
    simp only [Abs.opK] at e ⊢
    split at e
    · exact H.doCall e
    · simp at e
  case callv =>
    simp only [Abs.opK] at e ⊢
    split at e
    · exact H.doCall e
    · exact H.doCall e
    · simp at e
  all_goals exact ⟨0, e⟩

theorem Lim.insV (H : Lim A L) {s : St} {d : Option Nat} {g : Option (Nat × Bool)} {k : K} {r : AV × Heap × Nat} (e : insV G L s d g k = some r) : ∃ j, insV G (A j) s d g k = some r := by
  unfold Abs.insV at e ⊢
  split at e
  · exact H.opK e
  · exact ⟨0, e⟩
  · exact ⟨0, e⟩

theorem Lim.insI (H : Lim A L) {s : St} {i : Ins} {r : St} (e : insI G L s i = some r) : ∃ j, insI G (A j) s i = some r := by
  cases i
  case op =>
    simp only [Abs.insI] at e ⊢
    split at e
    · rename_i q hq
      obtain ⟨j, hj⟩ := H.insV hq
      refine ⟨j, ?_⟩
      rw [hj]
      exact e
    · simp at e
  all_goals exact ⟨0, e⟩

theorem Lim.insL (H : Lim A L) : ∀ {l : List Ins} {s r : St}, insL G L l s = some r → ∃ j, insL G (A j) l s = some r
  | [], s, r, e => ⟨0, e⟩
  | i :: l, s, r, e => by
    simp only [Abs.insL] at e ⊢
    split at e
    · rename_i s1 h1
      obtain ⟨j, hj⟩ := H.insI h1
      obtain ⟨k, hk⟩ := H.insL e
      refine ⟨max j k, ?_⟩
      rw [insI_mono (H.mono (Nat.le_max_left j k)) hj]
      exact insL_mono (H.mono (Nat.le_max_right j k)) hk
    · simp at e

theorem Lim.trail (H : Lim A L) : ∀ {l : List Ins} {s : St} {r : List St × List (Heap × Nat)}, trail G L l s = some r → ∃ j, trail G (A j) l s = some r
  | [], s, r, e => ⟨0, e⟩
  | i :: l, s, r, e => by
    simp only [Abs.trail] at e ⊢
    split at e
    · rename_i s1 h1
      obtain ⟨j, hj⟩ := H.insI h1
      split at e
      · rename_i ss hs h2
        obtain ⟨k, hk⟩ := H.trail h2
        refine ⟨max j k, ?_⟩
        rw [insI_mono (H.mono (Nat.le_max_left j k)) hj]
        simp only
        rw [trail_mono (H.mono (Nat.le_max_right j k)) hk]
        exact e
      · simp at e
    · simp at e

theorem Lim.stableAt (H : Lim A L) {x : Ins} {s : St} {m : Heap × Nat} (e : stableAt G L x s m = true) : ∃ j, stableAt G (A j) x s m = true := by
  cases x
  case op =>
    simp only [Abs.stableAt] at e ⊢
    split at e
    · rename_i r r' h1 h2
      obtain ⟨j, hj⟩ := H.insV h1
      obtain ⟨k, hk⟩ := H.insV h2
      refine ⟨max j k, ?_⟩
      rw [insV_mono (H.mono (Nat.le_max_left j k)) hj, insV_mono (H.mono (Nat.le_max_right j k)) hk]
      exact e
    · simp at e
  all_goals exact ⟨0, e⟩

/-- Finitely many things that hold from some place on hold at one place. -/
theorem all_at {α : Type} {p : Nat → α → Prop} (hm : ∀ {j k} (x : α), j ≤ k → p j x → p k x) : ∀ (l : List α), (∀ x ∈ l, ∃ k, p k x) → ∃ k, ∀ x ∈ l, p k x
  | [], _ => ⟨0, by simp⟩
  | a :: l, h => by
    obtain ⟨j, hj⟩ := h a (List.mem_cons_self ..)
    obtain ⟨k, hk⟩ := all_at hm l fun x hx => h x (List.mem_cons_of_mem _ hx)
    refine ⟨max j k, fun x hx => ?_⟩
    rcases List.mem_cons.1 hx with rfl | hx
    · exact hm _ (Nat.le_max_left j k) hj
    · exact hm _ (Nat.le_max_right j k) (hk x hx)

theorem Lim.drawDyn (H : Lim A L) {l : List Ins} {pre : List (List Nat)} {ss : List St} {hs : List (Heap × Nat)} (e : drawDyn G L l pre ss hs = true) : ∃ j, drawDyn G (A j) l pre ss hs = true := by
  simp only [Abs.drawDyn, List.all_eq_true] at e ⊢
  refine all_at (fun i hjk h => ?_) _ fun i hi => ?_
  · split at h
    · simp only [Bool.or_eq_true, beq_iff_eq, List.all_eq_true, List.mem_range] at h ⊢
      rcases h with h1 | h1 | h1
      · exact .inl h1
      · exact .inr (.inl h1)
      · refine .inr (.inr fun c hc => ?_)
        have := h1 c hc
        split at this
        · exact stableAt_mono (H.mono hjk) this
        · simp at this
    · simp at h
  · have h := e i hi
    split at h
    · rename_i x0 s0 _ _
      simp only [Bool.or_eq_true, beq_iff_eq, List.all_eq_true] at h ⊢
      rcases h with h1 | h1 | h1
      · exact ⟨0, .inl h1⟩
      · exact ⟨0, .inr (.inl h1)⟩
      · have : ∃ k, ∀ c ∈ List.range (hiOf l pre i + 1 - loOf l pre i), (match hs[loOf l pre i + c]? with | some h => Abs.stableAt G (A k) x0 s0 h | none => false) = true := by
          refine all_at (fun c hjk h => ?_) _ fun c hc => ?_
          · split at h
            · exact stableAt_mono (H.mono hjk) h
            · simp at h
          · have := h1 c hc
            split at this
            · rename_i h0 hq
              simp only [hq]
              exact H.stableAt this
            · simp at this
        obtain ⟨k, hk⟩ := this
        exact ⟨k, .inr (.inr hk)⟩
    · simp at h

theorem Lim.loop {f : St → Option (Ex × St)} {g : Nat → St → Option (Ex × St)} (hm : ∀ (j k : Nat) (s : St) (r : Ex × St), j ≤ k → g j s = some r → g k s = some r) (hf : ∀ s r, f s = some r → ∃ k, g k s = some r) :
    ∀ {n : Nat} {s : St} {r : Ex × St}, loopN f n s = some r → ∃ k, loopN (g k) n s = some r
  | 0, s, r, e => by simp [loopN] at e
  | n + 1, s, r, e => by
    simp only [loopN] at e
    split at e
    · rename_i s1 h1
      obtain ⟨j, hj⟩ := hf _ _ h1
      obtain ⟨k, hk⟩ := Lim.loop hm hf e
      refine ⟨max j k, ?_⟩
      simp only [loopN]
      rw [hm _ _ _ _ (Nat.le_max_left j k) hj]
      exact loopN_mono (fun s r => hm _ _ _ _ (Nat.le_max_right j k)) (Nat.le_refl _) hk
    · rename_i hne
      obtain ⟨j, hj⟩ := hf _ _ e
      refine ⟨j, ?_⟩
      simp only [loopN]
      rw [hj]
      split
      · rename_i s1 h2
        simp at h2
        subst h2
        exact absurd e (hne _)
      · rfl

theorem Lim.exec (H : Lim A L) {n : Nat} : ∀ {x : IR} {s : St} {r : Ex × St}, exec G L n x s = some r → ∃ k, exec G (A k) n x s = some r
  | .skip, s, r, e => ⟨0, e⟩
  | .reg l, s, r, e => by
    simp only [Abs.exec] at e ⊢
    split at e
    · rename_i s1 h1
      obtain ⟨k, hk⟩ := H.insL h1
      exact ⟨k, by rw [hk]; exact e⟩
    · simp at e
  | .regD l pre, s, r, e => by
    simp only [Abs.exec] at e ⊢
    split at e
    · rename_i ss hs h1
      obtain ⟨j, hj⟩ := H.trail h1
      split at e
      · rename_i hd
        obtain ⟨k, hk⟩ := H.drawDyn hd
        refine ⟨max j k, ?_⟩
        rw [trail_mono (H.mono (Nat.le_max_left j k)) hj]
        simp only
        rw [drawDyn_mono (H.mono (Nat.le_max_right j k)) hk]
        exact e
      · simp at e
    · simp at e
  | .ghost l a, s, r, e => by
    simp only [Abs.exec] at e ⊢
    split at e
    · rename_i s1 h1
      obtain ⟨j, hj⟩ := H.insL h1
      obtain ⟨k, hk⟩ := Lim.exec H e
      refine ⟨max j k, ?_⟩
      rw [insL_mono (H.mono (Nat.le_max_left j k)) hj]
      exact exec_mono (H.mono (Nat.le_max_right j k)) (Nat.le_refl _) hk
    · simp at e
  | .seq a b, s, r, e => by
    simp only [Abs.exec] at e ⊢
    split at e
    · rename_i s1 h1
      obtain ⟨j, hj⟩ := Lim.exec H h1
      obtain ⟨k, hk⟩ := Lim.exec H e
      refine ⟨max j k, ?_⟩
      rw [exec_mono (H.mono (Nat.le_max_left j k)) (Nat.le_refl _) hj]
      exact exec_mono (H.mono (Nat.le_max_right j k)) (Nat.le_refl _) hk
    · rename_i hne
      obtain ⟨j, hj⟩ := Lim.exec H e
      refine ⟨j, ?_⟩
      rw [hj]
      split
      · rename_i s1 h2
        simp at h2
        subst h2
        exact absurd e (hne _)
      · rfl
  | .cond x a b, s, r, e => by
    simp only [Abs.exec] at e ⊢
    split at e
    · exact Lim.exec H e
    · exact Lim.exec H e
    · simp at e
  | .block id a, s, r, e => by
    simp only [Abs.exec] at e ⊢
    split at e
    · rename_i i s1 h1
      obtain ⟨j, hj⟩ := Lim.exec H h1
      exact ⟨j, by rw [hj]; exact e⟩
    · rename_i hne
      obtain ⟨j, hj⟩ := Lim.exec H e
      refine ⟨j, ?_⟩
      rw [hj]
      split
      · rename_i i s1 h2
        simp at h2
        subst h2
        exact absurd e (hne _ _)
      · rfl
  | .loop a, s, r, e => by
    simp only [Abs.exec] at e ⊢
    exact Lim.loop (g := fun k => Abs.exec G (A k) n a) (fun _ _ _ _ hjk h => exec_mono (H.mono hjk) (Nat.le_refl _) h) (fun s r h => Lim.exec H h) e
  | .exit id, s, r, e => ⟨0, e⟩
  | .ret, s, r, e => ⟨0, e⟩

end

section
variable (G : Nat → List IV) (F : Nat → Option Fn) (X : Run)

/-- What a function comes to, however many rounds and calls it takes. -/
noncomputable def lim : Run := fun f args bs =>
  open Classical in if h : ∃ r n d, run G F X n d f args bs = some r then some h.choose else none

variable {G F X}

theorem lim_of {f : Nat} {args : List A1} {bs : List Blk} {r : List A1 × Heap} {n d : Nat} (h : run G F X n d f args bs = some r) : lim G F X f args bs = some r := by
  have hex : ∃ r n d, run G F X n d f args bs = some r := ⟨r, n, d, h⟩
  unfold lim
  rw [dif_pos hex]
  obtain ⟨n', d', h'⟩ := hex.choose_spec
  have h1 := run_mono (F := F) (X := X) (G := G) (Nat.le_max_left n n') (Nat.le_max_left d d') _ _ _ _ h
  have h2 := run_mono (F := F) (X := X) (G := G) (Nat.le_max_right n n') (Nat.le_max_right d d') _ _ _ _ h'
  rw [h1] at h2
  simp at h2
  rw [← h2]

theorem lim_ex {f : Nat} {args : List A1} {bs : List Blk} {r : List A1 × Heap} (h : lim G F X f args bs = some r) : ∃ n d, run G F X n d f args bs = some r := by
  unfold lim at h
  split at h
  · rename_i hex
    obtain ⟨n', d', h'⟩ := hex.choose_spec
    simp at h
    rw [h] at h'
    exact ⟨n', d', h'⟩
  · simp at h

theorem lim_lim : Lim (fun k => run G F X k k) (lim G F X) :=
  ⟨fun h => run_mono h h, fun f args bs r h => by
    obtain ⟨n, d, h⟩ := lim_ex h
    exact ⟨max n d, run_mono (Nat.le_max_left n d) (Nat.le_max_right n d) _ _ _ _ h⟩⟩

/-- A FUNCTION's BODY TELLS WHAT IT COMES TO. -/
theorem lim_fn {f : Nat} {fn : Fn} (hf : F f = some fn) {args : List A1} {bs : List Blk} {n : Nat} {ex : Ex} {s : St} {rs : List A1} (he : exec G (lim G F X) n fn.body (start fn args bs) = some (ex, s))
    (hx : ∀ i, ex ≠ .exit i) (hr : traverse (readRes s) fn.res = some rs) : lim G F X f args bs = some (rs, s.hp) := by
  obtain ⟨k, hk⟩ := (lim_lim (G := G) (F := F) (X := X)).exec he
  refine lim_of (n := max n k) (d := k + 1) ?_
  simp only [run, hf]
  rw [exec_mono (run_mono (G := G) (F := F) (X := X) (Nat.le_max_right n k) (Nat.le_refl k)) (Nat.le_max_left n k) hk]
  cases ex with
  | exit i => exact absurd rfl (hx i)
  | normal => simp only [hr]
  | ret => simp only [hr]

theorem lim_x {f : Nat} (hf : F f = none) (args : List A1) (bs : List Blk) {r : List A1 × Heap} (h : X f args bs = some r) : lim G F X f args bs = some r :=
  lim_of (n := 0) (d := 1) (by simp only [run, hf]; exact h)

end
end Go.Abs
