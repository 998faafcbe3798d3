/-
  The abstract machine beside Go's model: code.
-/
import Derived.Test.YtcbepglkfglclaaDoorHAbsP
namespace Go.Abs
open Go.RowKit

/-- The check of code. -/
def okIR (P : Program) : IR → Code → Bool
  | .ghost l x, c => l.all (fun x => !x.isOp) && okIR P x c
  | .skip, .skip => true
  | .reg l, .region _ ops draw => !draw && okInsL P ops l 0
  | .regD l pre, .region _ ops draw => draw && okDraw P ops l pre
  | .seq x y, .seq c d => okIR P x c && okIR P y d
  | .cond x p q, .cond y c d => okOpd y x && okIR P p c && okIR P q d
  | .block i x, .block j c => i == j && okIR P x c
  | .loop x, .loop c => okIR P x c
  | .exit i, .exit j => i == j
  | .ret, .ret => true
  | _, _ => false

def ExOk : Ex → Exit → Prop
  | .normal, .normal => True
  | .exit i, .exit j => i = j
  | .ret, .ret => True
  | _, _ => False

/-- What holds behind code. -/
def Behind (X : Cx) (E : Env) (ex : Ex) (s' : St) (e : Exit) (a' : Act) (w' : World) : Prop :=
  ExOk ex e ∧ ∃ E', E'.w = w' ∧ Rel X E' s' a' ∧ Ext X E E' ∧ E.w.heap.size ≤ w'.heap.size

section
variable {P : Program} {X : Cx} {G : Nat → List IV} {R : Run}

theorem Behind.trans {E E1 : Env} {ex : Ex} {s' : St} {e : Exit} {a' : Act} {w' : World} (h : Ext X E E1) (hs : E.w.heap.size ≤ E1.w.heap.size) (b : Behind X E1 ex s' e a' w') : Behind X E ex s' e a' w' := by
  obtain ⟨h1, E', h2, h3, h4, h5⟩ := b
  exact ⟨h1, E', h2, h3, h.trans h4 hs, Nat.le_trans hs h5⟩

theorem exec_sound (hR : RunOk P G R) (hG : GOk X G) (n : Nat) : ∀ (x : IR) (c : Code) (s s' : St) (ex : Ex) (E : Env) (a : Act), okIR P x c = true → exec G R n x s = some (ex, s') → Rel X E s a →
    c.wp P (Behind X E ex s') a E.w
  | .ghost l x, c, s, s', ex, E, a, hk, hs, hr => by
    simp only [okIR, Bool.and_eq_true] at hk
    simp only [exec] at hs
    split at hs
    · rename_i s1 hs1
      obtain ⟨E1, h1, h2, h3⟩ := ghosts_sound l s E hk.1 hs1 hr
      have := exec_sound hR hG n x c s1 s' ex E1 a hk.2 hs h2
      rw [h1] at this
      exact wp_mono this fun e a' w' b => b.trans h3 (by rw [h1]; exact Nat.le_refl _)
    · simp at hs
  | .skip, c, s, s', ex, E, a, hk, hs, hr => by
    cases c <;> simp [okIR] at hk
    simp [exec] at hs
    obtain ⟨rfl, rfl⟩ := hs
    exact wp_skip ⟨trivial, E, rfl, hr, Ext.refl X E, Nat.le_refl _⟩
  | .reg l, c, s, s', ex, E, a, hk, hs, hr => by
    cases c <;> simp [okIR] at hk
    rename_i id ops draw
    obtain ⟨rfl, hk⟩ := hk
    simp only [exec] at hs
    split at hs
    · rename_i s1 hs1
      simp at hs
      obtain ⟨rfl, rfl⟩ := hs
      refine wp_region ?_
      have := insL_sound hR hG (Q := Behind X E .normal s1) l 0 s E a hk (Nat.zero_le _) hs1 hr fun E' a' h1 h2 h3 => ⟨trivial, E', rfl, h1, h2, h3⟩
      simpa using this
    · simp at hs
  | .seq x y, c, s, s', ex, E, a, hk, hs, hr => by
    cases c <;> simp [okIR] at hk
    rename_i c d
    simp only [exec] at hs
    split at hs
    · rename_i s1 hs1
      refine wp_seq (wp_mono (exec_sound hR hG n x c s s1 .normal E a hk.1 hs1 hr) ?_)
      rintro e a' w' ⟨he, E1, rfl, h1, h2, h3⟩
      cases e <;> simp [ExOk] at he
      exact wp_mono (exec_sound hR hG n y d s1 s' ex E1 a' hk.2 hs h1) fun e a' w' b => b.trans h2 h3
    · rename_i hne
      refine wp_seq (wp_mono (exec_sound hR hG n x c s s' ex E a hk.1 hs hr) ?_)
      rintro e a' w' ⟨he, E1, rfl, h1, h2, h3⟩
      cases e with
      | normal =>
        cases ex <;> simp [ExOk] at he
        exact (hne s' hs).elim
      | _ => exact ⟨he, E1, rfl, h1, h2, h3⟩
  | .cond x p q, c, s, s', ex, E, a, hk, hs, hr => by
    cases c <;> simp [okIR] at hk
    rename_i y c d
    simp only [exec] at hs
    have r := ev_sound hr.tr hk.1.1
    split at hs
    · rename_i hb
      exact wp_cond_true (bool_sound r hb) (exec_sound hR hG n p c s s' ex E a hk.1.2 hs hr)
    · rename_i hb
      exact wp_cond_false (bool_sound r hb) (exec_sound hR hG n q d s s' ex E a hk.2 hs hr)
    · simp at hs
  | .block i x, c, s, s', ex, E, a, hk, hs, hr => by
    cases c <;> simp [okIR] at hk
    rename_i j c
    obtain ⟨rfl, hk⟩ := hk
    simp only [exec] at hs
    split at hs
    · rename_i i2 s1 hs1
      simp at hs
      obtain ⟨rfl, rfl⟩ := hs
      refine wp_block (wp_mono (exec_sound hR hG n x c s s1 (.exit i2) E a hk hs1 hr) ?_)
      rintro e a' w' ⟨he, E1, rfl, h1, h2, h3⟩
      cases e <;> simp [ExOk] at he
      subst he
      simp only [Exit.inBlock]
      split
      · exact ⟨trivial, E1, rfl, h1, h2, h3⟩
      · exact ⟨rfl, E1, rfl, h1, h2, h3⟩
    · rename_i hne
      refine wp_block (wp_mono (exec_sound hR hG n x c s s' ex E a hk hs hr) ?_)
      rintro e a' w' ⟨he, E1, rfl, h1, h2, h3⟩
      cases e with
      | exit i2 =>
        cases ex <;> simp [ExOk] at he
        exact (hne _ s' hs).elim
      | _ => exact ⟨he, E1, rfl, h1, h2, h3⟩
  | .loop x, c, s, s', ex, E, a, hk, hs, hr => by
    cases c <;> simp [okIR] at hk
    rename_i c
    simp only [exec] at hs
    have key : ∀ (m : Nat) (s : St) (E1 : Env) (a : Act), loopN (exec G R n x) m s = some (ex, s') → Rel X E1 s a → Ext X E E1 → E.w.heap.size ≤ E1.w.heap.size → Code.rounds P c (Behind X E ex s') m a E1.w := by
      intro m
      induction m with
      | zero => intro s E1 a hs; simp [loopN] at hs
      | succ m ih =>
        intro s E1 a hs hr hE hsz
        simp only [loopN] at hs
        show c.wp P (Exit.then (Code.rounds P c _ m) _) a E1.w
        split at hs
        · rename_i s1 hs1
          refine wp_mono (exec_sound hR hG n x c s s1 .normal E1 a hk hs1 hr) ?_
          rintro e a' w' ⟨he, E2, rfl, h1, h2, h3⟩
          cases e <;> simp [ExOk] at he
          exact ih s1 E2 a' hs h1 (hE.trans h2 hsz) (Nat.le_trans hsz h3)
        · rename_i hne
          refine wp_mono (exec_sound hR hG n x c s s' ex E1 a hk hs hr) ?_
          rintro e a' w' b
          have b2 := b.trans hE hsz
          obtain ⟨he, _⟩ := b
          cases e with
          | normal =>
            cases ex <;> simp [ExOk] at he
            exact (hne s' hs).elim
          | _ => exact b2
    exact wp_loop_rounds n (key n s E a hs hr (Ext.refl X E) (Nat.le_refl _))
  | .exit i, c, s, s', ex, E, a, hk, hs, hr => by
    cases c <;> simp [okIR] at hk
    rename_i j
    subst hk
    simp [exec] at hs
    obtain ⟨rfl, rfl⟩ := hs
    exact wp_exit ⟨rfl, E, rfl, hr, Ext.refl X E, Nat.le_refl _⟩
  | .ret, c, s, s', ex, E, a, hk, hs, hr => by
    cases c <;> simp [okIR] at hk
    simp [exec] at hs
    obtain ⟨rfl, rfl⟩ := hs
    exact wp_ret ⟨trivial, E, rfl, hr, Ext.refl X E, Nat.le_refl _⟩
  | .regD l pre, c, s, s', ex, E, a, hk, hs, hr => by
    cases c <;> simp [okIR] at hk
    rename_i id ops draw
    obtain ⟨rfl, hk⟩ := hk
    simp only [exec] at hs
    split at hs
    · rename_i ss hh ht
      split at hs
      · rename_i hdyn
        split at hs
        · rename_i s1 hl
          simp at hs
          obtain ⟨rfl, rfl⟩ := hs
          exact draw_sound hR hG hk ht hdyn hl hr fun E' a' h1 h2 h3 => ⟨trivial, E', rfl, h1, h2, h3⟩
        · simp at hs
      · simp at hs
    · simp at hs

end
end Go.Abs
