/-
  Calls whose slice the caller takes over.
-/
import Derived.Test.YtcbepglkfglclaaDoorHAbsG3
namespace Go.Abs

/-- What a function comes to, with its memory. -/
def ownC (R : Run) (f : Nat) (as : List A1) (bs : List Blk) (P : List A1 → Heap → Prop) : Prop := ∃ rs h, R f as bs = some (rs, h) ∧ P rs h
inductive ResO (nt : Nat) (σ : Sl) : List Res → List A1 → Prop
  | nil : ResO nt σ [] []
  | tmp {t : Nat} {a : A1} {l : List Res} {vs : List A1} (h : evσ nt σ (.t t) = .v a) (r : ResO nt σ l vs) : ResO nt σ (.tmp t :: l) (a :: vs)
theorem fn_own {G : Nat → List IV} {F : Nat → Option Fn} {X : Run} {f : Nat} {fn : Fn} (hf : F f = some fn) {args : List A1} {bs : List Blk} (hn : args.length ≤ fn.nt) {P : List A1 → Heap → Prop}
    (h : wpE G (lim G F X) fn.nt fn.body (ini args) (bs.zipIdx.map fun (b, i) => (PB + i, b)) 1 (atEnd fn.nt fn.res P)) : ownC (lim G F X) f args bs P := fn_wp hf hn h
theorem fn_own0 {G : Nat → List IV} {F : Nat → Option Fn} {X : Run} {f : Nat} {fn : Fn} (hf : F f = some fn) {args : List A1} (hn : args.length ≤ fn.nt) {P : List A1 → Heap → Prop}
    (h : wpE G (lim G F X) fn.nt fn.body (ini args) [] 1 (atEnd fn.nt fn.res P)) : ownC (lim G F X) f args [] P := fn_wp hf hn h

section
variable {nt : Nat} {σ : Sl} {hp : Heap} {ct d : Nat} {G : Nat → List IV} {R : Run} {Q : Sl → Heap → Nat → Prop} {l : List Ins}
theorem ResO.ev {res : List Res} {vs : List A1} (h : ResO nt σ res vs) : traverse (readRσ nt σ hp) res = some vs := by
  induction h with
  | nil => rfl
  | tmp h _ ih => rw [traverse_cons, ih]; simp only [readRσ, h, AV.one]
theorem e_own {res : List Res} {P : List A1 → Heap → Prop} {vs : List A1} (h : ResO nt σ res vs) (hP : P vs hp) : atEnd nt res P .ret σ hp ct := ⟨vs, h.ev, hP⟩
theorem e_ownN {res : List Res} {P : List A1 → Heap → Prop} {vs : List A1} (h : ResO nt σ res vs) (hP : P vs hp) : atEnd nt res P .normal σ hp ct := ⟨vs, h.ev, hP⟩
theorem k_kill {b : Nat} (n : ∀ hp', hp'.get b = none → Fr [b] hp hp' → wpL G R nt l Q σ hp' ct) : wpL G R nt (.kill [] [b] :: l) Q σ hp ct := by
  simp only [wpL]
  refine ⟨σ, delAll hp [b], ct, rfl, n _ ?_ fun q hq => ?_⟩
  · rw [Heap.get_delAll]; simp
  · rw [Heap.get_delAll, if_neg]; exact hq
theorem back_ivs (h : Heap) (pl : List (Nat × Nat × Nat)) (ts : List IV) : traverse (back1 h pl false) (ts.map fun v => A1.c (I v)) = some (ts.map fun v => A1.c (I v)) := by
  induction ts with
  | nil => rfl
  | cons v ts ih => rw [List.map_cons, traverse_cons, ih]; rfl
theorem back_row (h : Heap) (pl : List (Nat × Nat × Nat)) (ts : List IV) : traverse (backC h pl false) (ts.map I) = some (ts.map I) := by
  induction ts with
  | nil => rfl
  | cons v ts ih => rw [List.map_cons, traverse_cons, ih]; rfl
theorem k_callO {α : Type} {E : Rep α} {f1 : Bool} {PL : List Nat} {f : Nat} {args : List Opd} {as as' : List A1} {P : List A1 → Heap → Prop} {xs : List α} {ts : List IV}
    (hd : hp.get d = none) (ha : ArgsP nt σ hp [] args as as') (hl : (as.any fun a => a.cells.any (lentC [])) = false) (hr : refsOf [] as = []) (hc : ownC R f as' [] P)
    (hP : ∀ rs h, P rs h → ∃ a, rs = .c a :: ts.map (fun v => .c (I v)) ∧ so PL E f1 h a xs) (hPL : PL.all (fun b => decide (b < PB)) = true)
    (n : ∀ a' hp', so [d] E f1 hp' a' xs → Fr [d] hp hp' → wpL G R nt l Q (upd σ d (resV (.c a' :: ts.map fun v => .c (I v)))) hp' (ct + 1)) :
    wpL G R nt (.op (some d) none (.call f args { give := [], ad := [(PB, d)], pure := false }) :: l) Q σ hp ct := by
  obtain ⟨rs, h, h1, h2⟩ := hc
  obtain ⟨a, rfl, hs⟩ := hP _ _ h2
  have e1 := ha.ev.1
  have e2 := ha.ev.2
  rcases hs with ⟨rfl, rfl⟩ | ⟨rfl, rfl⟩ | ⟨b, g, off, cs, c, hb, rfl, h4, h5, h6, h7⟩
  · refine k_op (v := resV (.c (I .nilS) :: ts.map fun v => .c (I v))) (hp' := hp) (ct' := ct + 1) ?_ (n _ _ (.inl ⟨rfl, rfl⟩) (Fr.refl _ _))
    have ea : adOf [(PB, d)] (.c (I .nilS) :: ts.map fun v => .c (I v)) = [] := by simp [adOf]
    have eb : traverse (back1 h [] false) (.c (I .nilS) :: ts.map fun v => .c (I v)) = some (.c (I .nilS) :: ts.map fun v => .c (I v)) := back_ivs h [] (.nilS :: ts)
    simp only [opK, evals_mk, e1, doCall, Bool.false_eq_true, if_false, mkS_hp, mkS_ct, hr, e2, show handOver hp [] = some [] from rfl, h1, ea, hl]
    simp [placesOf, backH, nodupB, eb]
  · refine k_op (v := resV (.c (I .emp) :: ts.map fun v => .c (I v))) (hp' := hp) (ct' := ct + 1) ?_ (n _ _ (.inr (.inl ⟨rfl, rfl⟩)) (Fr.refl _ _))
    have ea : adOf [(PB, d)] (.c (I .emp) :: ts.map fun v => .c (I v)) = [] := by simp [adOf]
    have eb : traverse (back1 h [] false) (.c (I .emp) :: ts.map fun v => .c (I v)) = some (.c (I .emp) :: ts.map fun v => .c (I v)) := back_ivs h [] (.emp :: ts)
    simp only [opK, evals_mk, e1, doCall, Bool.false_eq_true, if_false, mkS_hp, mkS_ct, hr, e2, show handOver hp [] = some [] from rfl, h1, ea, hl]
    simp [placesOf, backH, nodupB, eb]
  · have hlt : b < PB := by simpa using List.all_eq_true.1 hPL b hb
    have hrow : (hp.set d (.cells ct (cs.map I))).row d ct = some (cs.map I) := by simp [Heap.row, Heap.get_set]
    refine k_op (v := resV (.c (.r (.sl d ct off E.sz xs.length)) :: ts.map fun v => .c (I v))) (hp' := hp.set d (.cells ct (cs.map I))) (ct' := ct + 1) ?_
      (n _ _ (.inr (.inr ⟨d, ct, off, cs, c, List.mem_singleton.2 rfl, rfl, hrow, h5, h6, h7⟩)) (Fr.set d _ hp))
    have ea : adOf [(PB, d)] (.c (.r (.sl b g off E.sz xs.length)) :: ts.map fun v => .c (I v)) = [(b, d)] := by simp [adOf, hlt]
    have hg := (Heap.row_eq h4).1
    have hcur := (Heap.row_eq h4).2
    have eb : traverse (back1 h [(b, d, ct)] false) (.c (.r (.sl b g off E.sz xs.length)) :: ts.map fun v => .c (I v)) = some (.c (.r (.sl d ct off E.sz xs.length)) :: ts.map fun v => .c (I v)) := by
      rw [traverse_cons, back_ivs]
      simp [back1, backC, backR, backAt, hcur]
    have eh : backH h [(b, d, ct)] false [(b, d, ct)] hp = some (hp.set d (.cells ct (cs.map I))) := by
      simp only [backH, hg, backB, back_row, Option.map_some]
    simp only [opK, evals_mk, e1, doCall, Bool.false_eq_true, if_false, mkS_hp, mkS_ct, hr, e2, show handOver hp [] = some [] from rfl, h1, ea, hl]
    simp [placesOf, nodupB, hd, hlt, eb, eh]
theorem app_to {α : Type} {E : Rep α} {P : List Nat} {f : Bool} {bytes : Nat} {a : AC} {c : List IV} {xs ys zs : List α} (hs : so P E f hp a xs) (hc : rows E f c ys) (e : app bytes xs ys = some zs) :
    ∃ a' hp' ct', appTo (mkS nt σ hp ct) d E.sz bytes a (c.map I) ys.length = some (.v (.c a'), hp', ct') ∧ so (d :: P) E f hp' a' zs ∧ Fr (d :: P) hp hp' := by
  unfold app at e
  split at e
  · rename_i hb
    have e := Option.some.inj e
    subst e
    have hcl := rows_len hc
    rcases hs with ⟨rfl, rfl⟩ | ⟨rfl, rfl⟩ | ⟨b', g, off, cs, c', hb', rfl, h4, h5, h6, h7⟩
    · by_cases h0 : ys.length = 0
      · obtain rfl : ys = [] := List.length_eq_zero_iff.1 h0
        exact ⟨I .nilS, hp, ct, rfl, .inl ⟨rfl, rfl⟩, Fr.refl _ _⟩
      · refine ⟨.r (.sl d ct 0 E.sz ys.length), hp.set d (.cells ct (c.map I)), ct + 1, ?_, .inr (.inr ⟨d, ct, 0, c, c, by simp, rfl, by simp [Heap.row, Heap.get_set], hc, by simp [hcl], by rw [List.drop_zero, List.nil_append, ← hcl, List.take_of_length_le (by simp)]⟩), fun q hq => by rw [Heap.get_set]; simp at hq; simp [hq.1]⟩
        simp only [appTo, I, h0, if_false, mkS_hp, mkS_ct]
        rw [if_pos (by simpa using hb)]
    · by_cases h0 : ys.length = 0
      · obtain rfl : ys = [] := List.length_eq_zero_iff.1 h0
        exact ⟨I .emp, hp, ct, rfl, .inr (.inl ⟨rfl, rfl⟩), Fr.refl _ _⟩
      · refine ⟨.r (.sl d ct 0 E.sz ys.length), hp.set d (.cells ct (c.map I)), ct + 1, ?_, .inr (.inr ⟨d, ct, 0, c, c, by simp, rfl, by simp [Heap.row, Heap.get_set], hc, by simp [hcl], by rw [List.drop_zero, List.nil_append, ← hcl, List.take_of_length_le (by simp)]⟩), fun q hq => by rw [Heap.get_set]; simp at hq; simp [hq.1]⟩
        simp only [appTo, I, h0, if_false, mkS_hp, mkS_ct]
        rw [if_pos (by simpa using hb)]
    · have hcl' := rows_len h5
      have hrow : (cs.map I).take (off + xs.length * E.sz) ++ c.map I = (cs.take (off + xs.length * E.sz) ++ c).map I := by rw [List.map_append, List.map_take]
      refine ⟨.r (.sl b' ct off E.sz (xs.length + ys.length)), hp.set b' (.cells ct ((cs.map I).take (off + xs.length * E.sz) ++ c.map I)), ct + 1, ?_, .inr (.inr ⟨b', ct, off, cs.take (off + xs.length * E.sz) ++ c, c' ++ c, by simp [hb'], by simp, by rw [← hrow]; simp [Heap.row, Heap.get_set], rows_append hc h5, ?_, ?_⟩), fun q hq => by rw [Heap.get_set]; simp at hq; rw [if_neg]; rintro rfl; exact hq.2 hb'⟩
      · simp only [appTo, mkS_hp, mkS_ct, h4, List.length_map]
        rw [if_pos (by simpa using ⟨h6, hb⟩)]
      · simp [hcl, Nat.add_mul]; omega
      · have e1 : (cs.take (off + xs.length * E.sz)).drop off = c' := by rw [← h7, List.drop_take]; congr 1; omega
        have hoff : off ≤ (cs.take (off + xs.length * E.sz)).length := by simp; omega
        rw [List.drop_append_of_le_length hoff, e1, List.take_of_length_le]
        simp [hcl, hcl', Nat.add_mul]
  · simp at e
/-- Zeros that are appended. -/
def _root_.Go.Abs.appN {α : Type} (b : Nat) (l : List α) (n : Int) (z : α) : Option (List α) := if 0 ≤ n then app b l (List.replicate n.toNat z) else none
theorem k_appZ {α : Type} {E : Rep α} {P : List Nat} {f : Bool} {sz bytes : Nat} {zero : List IV} {x y : Opd} {a : AC} {n : Int} {z : α} {xs zs : List α} (hx : evσ nt σ x = .v (.c a)) (hs : so P E f hp a xs) (hy : evσ nt σ y = V (.int .i64 n)) (e : appN bytes xs n z = some zs) (hzr : E.rp f zero z) (hz : E.sz = sz)
    (nx : ∀ a' hp' ct', so (d :: P) E f hp' a' zs → Fr (d :: P) hp hp' → wpL G R nt l Q (upd σ d (.v (.c a'))) hp' ct') : wpL G R nt (.op (some d) none (.appZ sz bytes zero x y) :: l) Q σ hp ct := by
  subst hz
  unfold appN at e
  split at e
  · rename_i h0
    obtain ⟨a', hp', ct', h1, h2, h3⟩ := app_to (nt := nt) (σ := σ) (ct := ct) (d := d) hs (rows_replicate hzr n.toNat) e
    refine k_op (v := .v (.c a')) (hp' := hp') (ct' := ct') ?_ (nx _ _ _ h2 h3)
    rw [← repC_flat, List.length_replicate] at h1
    rw [← h1]
    simp only [opK, step, ev_mk, hx, hy, V]
    rw [if_pos ⟨h0, E.len hzr⟩]; rfl
  · simp at e
end
end Go.Abs
