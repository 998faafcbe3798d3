/-
  Printed functions: slices that are handed over to a function, which appends to them or stores into them.
-/
import Derived.Test.YtcbepglkfglclaaDoorHAbsG8
namespace Go.Abs

/-- A slice that is neither nil nor without a block. -/
def nn (a : AC) : Prop := ∃ b g off sz n, a = .r (.sl b g off sz n)
theorem nn_sl {b g off sz n : Nat} : nn (.r (.sl b g off sz n)) := ⟨b, g, off, sz, n, rfl⟩

theorem so.nnp {α : Type} {P : List Nat} {E : Rep α} {f : Bool} {hp : Heap} {a : AC} {xs : List α} (h : so P E f hp a xs) (hn : nn a) :
    ∃ b g off cs c, b ∈ P ∧ a = .r (.sl b g off E.sz xs.length) ∧ hp.row b g = some (List.map I cs) ∧ rows E f c xs ∧ off + xs.length * E.sz ≤ cs.length ∧ (cs.drop off).take (xs.length * E.sz) = c := by
  rcases h with ⟨rfl, _⟩ | ⟨rfl, _⟩ | h
  · obtain ⟨_, _, _, _, _, e⟩ := hn; simp at e
  · obtain ⟨_, _, _, _, _, e⟩ := hn; simp at e
  · exact h

theorem rows_strong {α : Type} {E : Rep α} (h : ∀ c x, E.rp false c x → E.rp true c x) : ∀ {l : List α} {c : List IV}, rows E false c l → rows E true c l
  | [], _, r => r
  | _ :: _, _, ⟨a, b, e, r1, r2⟩ => ⟨a, b, e, h a _ r1, rows_strong h r2⟩

theorem retags_take (t : Nat) : ∀ (n : Nat) (c : List IV), IV.retags t (c.take n) = (IV.retags t c).take n
  | 0, c => by simp [IV.retags]
  | n + 1, [] => by simp [IV.retags]
  | n + 1, v :: c => by simp [IV.retags, retags_take t n c]
theorem retags_drop (t : Nat) : ∀ (n : Nat) (c : List IV), IV.retags t (c.drop n) = (IV.retags t c).drop n
  | 0, c => by simp
  | n + 1, [] => by simp [IV.retags]
  | n + 1, v :: c => by simp [IV.retags, retags_drop t n c]

theorem fn_given {G : Nat → List IV} {F : Nat → Option Fn} {X : Run} {f : Nat} {fn : Fn} (hf : F f = some fn) {args : List A1} {b : Blk} (hn : args.length ≤ fn.nt) {P : List A1 → Heap → Prop}
    (h : ∀ hp0, hp0 = [(PB, b)] → wpE G (lim G F X) fn.nt fn.body (ini args) hp0 1 (atEnd fn.nt fn.res P)) : ownC (lim G F X) f args [b] P := fn_own hf hn (h _ rfl)

section
variable {nt : Nat} {σ : Sl} {hp : Heap} {ct d : Nat} {G : Nat → List IV} {R : Run} {Q : Sl → Heap → Nat → Prop} {l : List Ins}

theorem k_bslIN {α : Type} {E : Rep α} {f : Bool} {len : Nat} {z : IV} {parts : List (Nat × Opd)} {vs : List IV} {xs : List α} (hp1 : PartsI nt σ 0 parts vs) (hb : len ≤ 16777216) (hl : vs.length = len)
    (hr : rows E f vs xs) (hl2 : xs.length = len) (hz : E.sz = 1) (nx : ∀ a' hp', so [d] E f hp' a' xs → nn a' → Fr [d] hp hp' → wpL G R nt l Q (upd σ d (.v (.c a'))) hp' (ct + 1)) : wpL G R nt (.op (some d) none (.bsl 1 len [z] parts true) :: l) Q σ hp ct := by
  have hrl := rows_len hr
  have hv : fillS 1 (repC len [z]) ((vs.zipIdx 0).map fun (v, i) => (i, A1.c (I v))) = some (vs.map I) := by have := fill_one vs 0 [] (repC len [z]) rfl (by rw [repC_len1, hl]); simpa using this
  refine k_op (v := .v (.c (.r (.sl d ct 0 1 len)))) (hp' := hp.set d (.cells ct (vs.map I))) (ct' := ct + 1) ?_ (nx _ _ (.inr (.inr ⟨d, ct, 0, vs, vs, by simp, by rw [hz, hl2], by simp [Heap.row, Heap.get_set], hr, by omega, by rw [List.drop_zero, List.take_of_length_le (by omega)]⟩)) nn_sl (Fr.set _ _ _))
  rw [x_bsl, hp1.parts.ev]
  have hb2 : len * 1 ≤ 16777216 ∧ [z].length = 1 := ⟨by omega, rfl⟩
  simp only [hv, if_pos hb2, if_true]
  rfl

/-- Appending to a slice that has a block. -/
theorem k_appX {α : Type} {E : Rep α} {P P' : List Nat} {f : Bool} {sz bytes : Nat} {x y : Opd} {a b : AC} {xs ys zs : List α} (hx : evσ nt σ x = .v (.c a)) (hs : so P E f hp a xs) (hn : nn a) (hy : evσ nt σ y = .v (.c b)) (ht : sa P' E f hp b ys) (e : app bytes xs ys = some zs) (hz : E.sz = sz)
    (nx : ∀ a' hp' ct', so P E f hp' a' zs → nn a' → Fr P hp hp' → wpL G R nt l Q (upd σ d (.v (.c a'))) hp' ct') : wpL G R nt (.op (some d) none (.app sz bytes false x y) :: l) Q σ hp ct := by
  subst hz
  unfold app at e
  split at e
  · rename_i hb
    have e := Option.some.inj e
    subst e
    have hstr : isStrC b = false := by
      rcases ht with ⟨v, rfl, ⟨rfl, rfl⟩ | ⟨rfl, rfl⟩ | ⟨t, c, rfl, h4, h5⟩⟩ | ⟨rfl, rfl⟩ | ⟨rfl, rfl⟩ | ⟨b, g, off, cs, c, hb, rfl, h4⟩ <;> rfl
    obtain ⟨c, hc, hcs⟩ := ht.cells
    have hcl := rows_len hc
    obtain ⟨b', g, off, cs, c', hb', rfl, h4, h5, h6, h7⟩ := hs.nnp hn
    have hcl' := rows_len h5
    have hrow : (cs.map I).take (off + xs.length * E.sz) ++ c.map I = (cs.take (off + xs.length * E.sz) ++ c).map I := by rw [List.map_append, List.map_take]
    refine k_op (v := .v (.c (.r (.sl b' ct off E.sz (xs.length + ys.length))))) (hp' := hp.set b' (.cells ct ((cs.map I).take (off + xs.length * E.sz) ++ c.map I))) (ct' := ct + 1) ?_ (nx _ _ _ (.inr (.inr ⟨b', ct, off, cs.take (off + xs.length * E.sz) ++ c, c' ++ c, hb', by simp, by rw [← hrow]; simp [Heap.row, Heap.get_set], rows_append hc h5, ?_, ?_⟩)) nn_sl (fun q hq => by rw [Heap.get_set, if_neg]; rintro rfl; exact hq hb'))
    · rw [x_app, hx, hy]; simp only [hstr, if_true, hcs, h4, List.length_map]
      rw [if_pos (by simpa using ⟨h6, hb⟩)]
    · simp [hcl, Nat.add_mul]; omega
    · have e1 : (cs.take (off + xs.length * E.sz)).drop off = c' := by rw [← h7, List.drop_take]; congr 1; omega
      have hoff : off ≤ (cs.take (off + xs.length * E.sz)).length := by simp; omega
      rw [List.drop_append_of_le_length hoff, e1, List.take_of_length_le]
      simp [hcl, hcl', Nat.add_mul]
  · simp at e

/-- A call that a slice is handed over to, as its first argument; it comes back as the first result. -/
theorem k_callG {α : Type} {E : Rep α} {PL : List Nat} {f : Nat} {x : Opd} {args : List Opd} {a : AC} {as as' : List A1} {O : List A1 → Heap → Prop} {xs zs : List α} {ts : List IV}
    (hst : ∀ c x, E.rp false c x → E.rp true c x) (hx : evσ nt σ x = .v (.c a)) (hs : so PL E true hp a xs) (hn : nn a) (ha : ∀ b, ArgsP nt σ hp [b] args as as') (hi : as.all A1.inl = true)
    (hc : ∀ cs off, so [PB] E true [(PB, .cells 0 (List.map I cs))] (.r (.sl PB 0 off E.sz xs.length)) xs → ownC R f (.c (.r (.sl PB 0 off E.sz xs.length)) :: as') [.cells 0 (List.map I cs)] O)
    (hP : ∀ rs h, O rs h → ∃ a, rs = .c a :: ts.map (fun v => .c (I v)) ∧ so [PB] E true h a zs ∧ nn a)
    (n : ∀ a' hp', so PL E true hp' a' zs → nn a' → Fr PL hp hp' → wpL G R nt l Q (upd σ d (resV (.c a' :: ts.map fun v => .c (I v)))) hp' (ct + 1)) :
    wpL G R nt (.op (some d) none (.call f (x :: args) { give := [(0, 0)], ad := [], pure := false }) :: l) Q σ hp ct := by
  obtain ⟨b, g, off, cs, c, hb, rfl, h4, h5, h6, h7⟩ := hs.nnp hn
  have hget := (Heap.row_eq h4).1
  have hcur := (Heap.row_eq h4).2
  have h5' : rows E true (IV.retags 1 c) xs := rows_strong hst (rows_retag h5)
  have hso : so [PB] E true [(PB, .cells 0 (List.map I (IV.retags 1 cs)))] (.r (.sl PB 0 off E.sz xs.length)) xs := by
    refine .inr (.inr ⟨PB, 0, off, IV.retags 1 cs, IV.retags 1 c, by simp, rfl, by simp [Heap.row, Heap.get], h5', by rw [IV.retags_length]; exact h6, ?_⟩)
    rw [← retags_drop, ← retags_take, h7]
  obtain ⟨rs, h, hR, hO⟩ := hc _ _ hso
  obtain ⟨a2, rfl, hs2, hn2⟩ := hP _ _ hO
  obtain ⟨b2, g2, off2, cs2, c2, hb2, rfl, k4, k5, k6, k7⟩ := hs2.nnp hn2
  obtain rfl : b2 = PB := by simpa using hb2
  have kget := (Heap.row_eq k4).1
  have kcur := (Heap.row_eq k4).2
  have ht : ∀ c : List IV, traverse (toC false hp [b]) (c.map I) = some ((IV.retags 1 c).map I) := by
    intro c
    induction c with
    | nil => rfl
    | cons v c ih => simp only [List.map_cons, traverse_cons, toC, toR, Option.map_some, ih, IV.retags]
  have hids : refsOf [(0, 0)] (.c (.r (.sl b g off E.sz xs.length)) :: as) = [b] := by
    have : (as.zipIdx 1).flatMap (fun (a, i) => a.cells.zipIdx.flatMap fun (x, j) => refC ([((0 : Nat), (0 : Nat))].contains (i, j)) x) = [] := by
      rw [List.flatMap_eq_nil_iff]
      rintro ⟨a, i⟩ ha
      have ha : a ∈ as := by
        have := List.mem_zipIdx ha
        exact this.2.2 ▸ List.getElem_mem _
      rw [List.flatMap_eq_nil_iff]
      rintro ⟨x, j⟩ hx
      have hx : x ∈ a.cells := by
        have := List.mem_zipIdx hx
        exact this.2.2 ▸ List.getElem_mem _
      exact refs_inl (List.all_eq_true.1 hi a ha) x hx
    unfold refsOf
    rw [List.zipIdx_cons, List.flatMap_cons, this]
    simp [A1.cells, List.zipIdx, refC, refR, ddup]
  have hlent : ((A1.c (.r (.sl b g off E.sz xs.length)) :: as).any fun a => a.cells.any (lentC [b])) = false := by
    rw [List.any_cons]
    have : (as.any fun a => a.cells.any (lentC [b])) = false := by
      rw [List.any_eq_false]
      intro a ha
      rw [lent_inl (List.all_eq_true.1 hi a ha)]
      simp
    rw [this]
    simp [A1.cells, lentC, lentR, idxOf]
  have hto : traverse (to1 true hp [b]) (.c (.r (.sl b g off E.sz xs.length)) :: as) = some (.c (.r (.sl PB 0 off E.sz xs.length)) :: as') := by
    rw [traverse_cons, (ha b).ev.2]
    simp [to1, toC, toR, idxOf, hcur]
  have hho : handOver hp [b] = some [.cells 0 (List.map I (IV.retags 1 cs))] := by
    simp [handOver, traverse, hget, toB, ht cs]
  have key : ∃ g', (if h.cur PB = some 0 then (hp.cur b).getD ct else ct) = g' := ⟨_, rfl⟩
  obtain ⟨g', hg'⟩ := key
  have hrow : (hp.set b (.cells g' (cs2.map I))).row b g' = some (cs2.map I) := by simp [Heap.row, Heap.get_set]
  refine k_op (v := resV (.c (.r (.sl b g' off2 E.sz zs.length)) :: ts.map fun v => .c (I v))) (hp' := hp.set b (.cells g' (cs2.map I))) (ct' := ct + 1) ?_
    (n _ _ (.inr (.inr ⟨b, g', off2, cs2, c2, hb, rfl, hrow, k5, k6, k7⟩)) nn_sl fun q hq => by rw [Heap.get_set, if_neg]; rintro rfl; exact hq hb)
  have eb : traverse (back1 h [(PB, b, g')] false) (.c (.r (.sl PB g2 off2 E.sz zs.length)) :: ts.map fun v => .c (I v)) = some (.c (.r (.sl b g' off2 E.sz zs.length)) :: ts.map fun v => .c (I v)) := by
    rw [traverse_cons, back_ivs]
    simp [back1, backC, backR, backAt, kcur]
  have eh : backH h [(PB, b, g')] false [(PB, b, g')] hp = some (hp.set b (.cells g' (cs2.map I))) := by
    simp only [backH, kget, backB, back_row, Option.map_some]
  have epl : placesOf h hp ct [b] (adOf [] (A1.c (.r (.sl PB g2 off2 E.sz zs.length)) :: ts.map fun v => A1.c (I v))) = [(PB, b, g')] := by
    simp [placesOf, adOf, ← hg']
  have eev : traverse (fun o => (evσ nt σ o).one) (x :: args) = some (.c (.r (.sl b g off E.sz xs.length)) :: as) := by
    rw [traverse_cons, hx, (ha b).ev.1]; rfl
  simp only [opK, evals_mk, eev, doCall, Bool.false_eq_true, if_false, mkS_hp, mkS_ct, hids, hto, hho, hR, hlent, epl, eb, eh]
  simp [adOf, nodupB]
end
end Go.Abs
