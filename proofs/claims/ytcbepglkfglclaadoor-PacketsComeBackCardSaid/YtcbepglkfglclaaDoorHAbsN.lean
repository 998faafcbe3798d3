/-
  The abstract machine beside Go's model: a function's run; library functions without a body.
-/
import Derived.Test.YtcbepglkfglclaaDoorHAbsQ
namespace Go.Abs
open Go.RowKit

def okRes (P : Program) : List ResultVar → List Res → Bool
  | [], [] => true
  | .tmp t :: l, .tmp t' :: m => t == t' && okRes P l m
  | .cell a t :: l, .cell a' n agg :: m => a == a' && tyOk P t n agg && okRes P l m
  | _, _ => false

/-- The check of a function. -/
def okFn (P : Program) (f : Nat) (fn : Fn) : Bool :=
  match P.funcs[f]? with
  | some g => match g.body with
    | some c => g.ntmps == fn.nt && okRes P g.results.toList fn.res && okIR P fn.body c && g.name != "runtime.NumGoroutine"
    | none => false
  | none => false

section
variable {P : Program} {X : Cx} {E : Env} {s : St} {a : Act} {G : Nat → List IV} {R : Run}

def resOne (a : Act) : ResultVar → Sem Value
  | .tmp t => pure (a.tmps.getD t undef)
  | .cell b t => do loadVar t (← asAddr (a.tmps.getD b undef))

theorem get_sound (h : TR X E s a) {t : Nat} {w : A1} (e : s.get t = .v w) : A1R X E w (a.tmps.getD t undef) := by
  unfold St.get at e
  rw [List.getD_eq_getElem?_getD] at e
  cases hq : s.tm[t]? with
  | none => rw [hq] at e; simp at e
  | some q => rw [hq] at e; simp at e; have := h.at_ t q hq; rw [e] at this; exact this

theorem res_list (hr : Rel X E s a) : ∀ {l : List ResultVar} {m : List Res} {rs : List A1}, okRes P l m = true → traverse (readRes s) m = some rs →
    ∃ vs, (l.mapM (resOne a)).run P E.w = .ok vs E.w ∧ All2 (A1R X E) rs vs
  | [], [], rs, _, e => by simp [traverse] at e; subst e; exact ⟨[], by simp, .nil⟩
  | .tmp t :: l, .tmp t' :: m, rs, h, e => by
    simp [okRes] at h
    obtain ⟨rfl, h⟩ := h
    simp only [traverse] at e
    split at e
    · simp at e
    · rename_i b hb
      split at e
      · simp at e
      · rename_i bs hbs
        simp at e
        subst e
        obtain ⟨vs, h1, h2⟩ := res_list hr h hbs
        have hg : s.get t = .v b := by
          simp only [readRes] at hb
          cases hq : s.get t <;> rw [hq] at hb <;> simp [AV.one] at hb
          rw [hb]
        exact ⟨_ :: vs, by simp [List.mapM_cons, resOne, h1], .cons (get_sound hr.tr hg) h2⟩
  | .cell b t :: l, .cell b' n agg :: m, rs, h, e => by
    simp [okRes] at h
    obtain ⟨⟨rfl, hty⟩, h⟩ := h
    simp only [traverse] at e
    split at e
    · simp at e
    · rename_i r hrr
      split at e
      · simp at e
      · rename_i bs hbs
        simp at e
        subst e
        obtain ⟨vs, h1, h2⟩ := res_list hr h hbs
        simp only [readRes] at hrr
        split at hrr
        · rename_i bb g off hg
          split at hrr
          · rename_i cs hrow
            split at hrr
            · rename_i cs' hcs
              have hv := get_sound hr.tr hg
              rw [← hr.h] at hrow
              have hlk : lookAt (fun _ => []) E.h (.r (.ptr bb g off)) = some (cs.drop off) := by simp [lookAt, hrow]
              have hG0 : GOk X (fun _ => []) := fun g hg => absurd rfl hg
              obtain ⟨ad, ws, q1, q2, q3, q4⟩ := look_view hr.wr hG0 (p := .r (.ptr bb g off)) hv hlk hcs
              have hl := run_loadVar_cells hty E.w ad ws q2 q4
              refine ⟨valOf agg ws :: vs, ?_, .cons (mk1_sound q3 hrr) h2⟩
              simp [List.mapM_cons, resOne, q1, asAddr, hl, h1]
            · simp at hrr
          · simp at hrr
        · simp at hrr
  | [], _ :: _, _, h, _ => by simp [okRes] at h
  | .tmp _ :: _, [], _, h, _ => by simp [okRes] at h
  | .cell _ _ :: _, [], _, h, _ => by simp [okRes] at h
  | .tmp _ :: _, .cell _ _ _ :: _, _, h, _ => by simp [okRes] at h
  | .cell _ _ :: _, .tmp _ :: _, _, h, _ => by simp [okRes] at h

theorem results_sound (hr : Rel X E s a) {g : Func} {m : List Res} {rs : List A1} (h : okRes P g.results.toList m = true) (e : traverse (readRes s) m = some rs) :
    ∃ vs, (results g a.tmps).run P E.w = .ok (retV vs) E.w ∧ All2 (A1R X E) rs vs := by
  obtain ⟨vs, h1, h2⟩ := res_list hr h e
  refine ⟨vs, ?_, h2⟩
  have e1 : results g a.tmps = (g.results.mapM (resOne a)) >>= fun vs => Pure.pure (if h : vs.size = 1 then vs[0] else .tuple vs) := by
    unfold results
    congr 1
  rw [e1, Array.mapM_eq_mapM_toList]
  simp only [Sem.run_bind, Sem.run_map, h1, Result.andThen_ok, Sem.run_pure]
  congr 1
  match vs with
  | [] => rfl
  | [x] => rfl
  | x :: y :: l => simp [retV]

theorem run_sound {F : Nat → Option Fn} {Xr : Run} (hF : ∀ f fn, F f = some fn → okFn P f fn = true) (hX : RunOk P G Xr) (n : Nat) : ∀ d, RunOk P G (run G F Xr n d)
  | 0 => fun f args bs rs h e => by simp [run] at e
  | d + 1 => by
    intro f args bs rs h e X ids E0 lent cargs X' E hW hG ha
    simp only [run] at e
    split at e
    · exact hX f args bs rs h e X ids E0 lent cargs hW hG ha
    · rename_i fn hfn
      have hok := hF f fn hfn
      unfold okFn at hok
      split at hok
      · rename_i g hg
        split at hok
        · rename_i c hc
          simp at hok
          obtain ⟨⟨⟨hnt, hres⟩, hir⟩, hname⟩ := hok
          refine .inl ⟨?_, ?_⟩
          · simp [callFunc, hg, hname, hc]
          · have hl := ha.length
            have hr0 : Rel X' E (start fn args bs) { tmps := cargs.toArray ++ Array.replicate (g.ntmps - cargs.toArray.size) undef, defers := [] } := by
              refine ⟨rfl, rfl, hW, rfl, ?_, fun i v hv => ?_⟩
              · simp [start, hnt, hl]
              · simp only [start] at hv
                by_cases hi : i < args.length
                · rw [List.getElem?_append_left (by simpa using hi), List.getElem?_map] at hv
                  cases hq : args[i]? with
                  | none => simp [hq] at hv
                  | some z =>
                    simp [hq] at hv
                    subst hv
                    obtain ⟨w, hw, hrw⟩ := ha.get i z hq
                    have hi2 : i < cargs.length := by omega
                    have hw2 : cargs[i] = w := by
                      have := List.getElem?_eq_getElem hi2
                      rw [hw] at this; simpa using this.symm
                    have : (cargs.toArray ++ Array.replicate (g.ntmps - cargs.toArray.size) undef).getD i undef = w := by
                      rw [Array.getD_eq_getD_getElem?, Array.getElem?_append_left (by simpa using hi2)]
                      simp [hi2, hw2]
                    rw [this]
                    exact hrw
                · rw [List.getElem?_append_right (by simpa using Nat.le_of_not_lt hi)] at hv
                  rw [List.getElem?_replicate] at hv
                  split at hv
                  · simp at hv; subst hv; trivial
                  · simp at hv
            have hdone : ∀ (ex : Ex) (s1 : St), exec G (run G F Xr n d) n fn.body (start fn args bs) = some (ex, s1) → (∀ i, ex ≠ .exit i) → traverse (readRes s1) fn.res = some rs → s1.hp = h →
                Calls P f cargs.toArray E.w fun e w' => ∃ v, e = .returned v ∧ ∃ E', E'.w = w' ∧ E'.h = h ∧ WR X' E' ∧ Ext X' E E' ∧ ∃ vs, All2 (A1R X' E') rs vs ∧ v = retV vs := by
              intro ex s1 he hne hrs hh
              refine calls_of_wp hg hc (wp_mono (exec_sound (run_sound hF hX n d) hG n fn.body c _ s1 ex E _ hir he hr0) ?_)
              rintro e a' w' ⟨h1, E', rfl, h2, h3, h4⟩
              obtain ⟨vs, q1, q2⟩ := results_sound h2 hres hrs
              have fin : a'.defers = [] ∧ ∃ v, (results g a'.tmps).run P E'.w = .ok v E'.w ∧ ∃ v', Ending.returned v = .returned v' ∧ ∃ E'', E''.w = E'.w ∧ E''.h = h ∧ WR X' E'' ∧ Ext X' E E'' ∧ ∃ vs, All2 (A1R X' E'') rs vs ∧ v' = retV vs :=
                ⟨h2.tr.defers, _, q1, _, rfl, E', rfl, by rw [h2.h, hh], h2.wr, h3, vs, q2, rfl⟩
              cases ex with
              | normal => cases e <;> simp [ExOk] at h1; exact fin
              | ret => cases e <;> simp [ExOk] at h1; exact fin
              | exit i => exact absurd rfl (hne i)
            split at e
            · simp at e
            · rename_i ex s1 hne he
              split at e
              · rename_i rs' hrs
                simp at e
                obtain ⟨rfl, rfl⟩ := e
                exact hdone ex s1 he (fun i q => hne i (by rw [← q])) hrs rfl
              · simp at e
            · simp at e
        · simp at hok
      · simp at hok

end
end Go.Abs
