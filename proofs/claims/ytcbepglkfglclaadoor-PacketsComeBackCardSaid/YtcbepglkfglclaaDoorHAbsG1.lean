/-
  Typed data beside the abstract machine: what the printed proofs use.
-/
import Derived.Test.YtcbepglkfglclaaDoorHAbsR
namespace Go.Abs

theorem Keep.sub {L L2 : List Nat} {lo hi lo2 hi2 : Nat} {σ σ' : Sl} (h : Keep L2 lo2 hi2 σ σ') (hs : (L2.all (fun t => !kp L lo hi t) && (decide (hi2 < lo2) || (decide (lo ≤ lo2) && decide (hi2 ≤ hi)))) = true) : Keep L lo hi σ σ' := by
  intro t ht
  refine h t ?_
  simp only [Bool.and_eq_true, Bool.or_eq_true, List.all_eq_true, decide_eq_true_eq] at hs
  simp only [kp, Bool.and_eq_true, Bool.or_eq_true, decide_eq_true_eq, Bool.not_eq_true'] at ht ⊢
  refine ⟨?_, ?_⟩
  · cases hc : L2.contains t with
    | false => rfl
    | true =>
      have := hs.1 t (by simpa using hc)
      simp only [kp, Bool.not_eq_true', Bool.and_eq_false_iff, Bool.or_eq_false_iff, decide_eq_false_iff_not] at this
      rcases this with h1 | h1
      · rw [ht.1] at h1; simp at h1
      · omega
  · rcases hs.2 with h2 | h2 <;> omega

theorem Fr.ext {H Q : List Nat} {a b c : Heap} (h : Fr H a b) (k : Fr Q b c) (hq : Q.all (H.contains ·) = true) : Fr H a c := fun p hp =>
  (k p fun hin => hp (by have := List.all_eq_true.1 hq p hin; simpa using this)).trans (h p hp)

theorem idx_in {α : Type} {l : List α} {n : Int} {x : α} (h : idx l n = some x) : 0 ≤ n ∧ n < l.length := by
  obtain ⟨h1, h2, _⟩ := idx_is h
  exact ⟨h1, by omega⟩
theorem stoAll {α : Type} {E : Rep α} {f : Bool} {c ws : List IV} {u u' : α} (hc : E.rp f c u) (hw : E.rp f ws u') : E.rp f (c.take 0 ++ ws ++ c.drop (0 + ws.length)) u' := by
  have e : c.drop (0 + ws.length) = [] := List.drop_eq_nil_of_le (by rw [E.len hc, E.len hw]; omega)
  rw [e]; simpa using hw

/-- The bytes of a slice of bytes, as a string. -/
def bytesStr (l : List Int) : List UInt8 := l.map fun n => UInt8.ofNat n.toNat
/-- The bytes of a string. -/
def strInts (l : List UInt8) : List Int := l.map fun c => (c.toNat : Int)
def strBytes (l : List UInt8) : Option (List Int) := if l.length ≤ 1099511627776 then some (strInts l) else none

theorem rows_ints {k : IntKind} {f : Bool} : ∀ {l : List Int} {c : List IV}, rows (Rep.int k) f c l → c = l.map (.int k)
  | [], c, h => h
  | x :: l, c, h => by
    obtain ⟨a, b, rfl, h1, h2⟩ := h
    obtain rfl : a = [.int k x] := h1
    rw [rows_ints h2]; rfl
theorem ints_rows {k : IntKind} {f : Bool} : ∀ l : List Int, rows (Rep.int k) f (l.map (.int k)) l
  | [] => rfl
  | x :: l => ⟨[.int k x], _, rfl, rfl, ints_rows l⟩
theorem strInts_cells (s : List UInt8) : (s.map fun c => I (.int .u8 c.toNat)) = ((strInts s).map (IV.int .u8)).map I := by simp [strInts]

theorem byteOfs : ∀ xs : List Int, traverse byteOf ((xs.map (IV.int .u8)).map I) = some (bytesStr xs)
  | [] => rfl
  | x :: xs => by simp only [List.map_cons, traverse_cons, byteOf, byteOfs xs]; rfl
section
variable {nt : Nat} {σ : Sl} {hp : Heap} {ct d : Nat} {G : Nat → List IV} {R : Run} {l : List Ins} {c : IR}
theorem gE {Q : Ex → Sl → Heap → Nat → Prop} (h : ∀ σ', σ' = σ → wpE G R nt c σ' hp ct Q) : wpE G R nt c σ hp ct Q := h σ rfl
theorem gL {Q : Sl → Heap → Nat → Prop} (h : ∀ σ', σ' = σ → wpL G R nt l Q σ' hp ct) : wpL G R nt l Q σ hp ct := h σ rfl

variable {Q : Sl → Heap → Nat → Prop}
/-- A slice of one's own that nobody will turn any more. -/
theorem set_mk (t : Nat) (v : AV) (hp' : Heap) : ({ mkS nt σ hp ct with tm := (mkS nt σ hp ct).tm.set t v, hp := hp' } : St) = mkS nt (upd σ t v) hp' ct := by
  have := with_mk (nt := nt) (σ := σ) (hp := hp) (ct := ct) (some t) (v, hp', ct)
  simpa [St.with, St.put, updO, mkS_ct] using this
theorem k_frz {α : Type} {E : Rep α} {P : List Nat} {f : Bool} {t : Nat} {a : AC} {xs : List α} (hx : (mkS nt σ hp ct).get t = .v (.c a)) (hs : so P E f hp a xs) (hP : P.all (fun b => decide (b < PB)) = true)
    (n : ∀ v hp', sv E f v xs → Fr P hp hp' → wpL G R nt l Q (upd σ t (V v)) hp' ct) : wpL G R nt (.frz t :: l) Q σ hp ct := by
  simp only [wpL]
  rcases hs with ⟨rfl, rfl⟩ | ⟨rfl, rfl⟩ | ⟨b, g, off, cs, c, hb, rfl, h4, h5, h6, h7⟩
  · refine ⟨upd σ t (V .nilS), hp, ct, ?_, n _ _ (.inl ⟨rfl, rfl⟩) (Fr.refl _ _)⟩
    simp only [insI, hx]
    exact congrArg some (set_mk t (V .nilS) hp)
  · refine ⟨upd σ t (V .emp), hp, ct, ?_, n _ _ (.inr (.inl ⟨rfl, rfl⟩)) (Fr.refl _ _)⟩
    simp only [insI, hx]
    exact congrArg some (set_mk t (V .emp) hp)
  · have hlt : b < PB := by simpa using List.all_eq_true.1 hP b hb
    have hg : hp.get b = some (.cells g (cs.map I)) := (Heap.row_eq h4).1
    have hch : (cs.map I).flatMap (refC true) = [] := by
      rw [List.flatMap_eq_nil_iff]; intro x hx'; simp at hx'; obtain ⟨v, _, rfl⟩ := hx'; rfl
    have hd : refDeep hp 3 [b] = [b] := by simp [refDeep, hg, hch]
    refine ⟨upd σ t (V (.lit 0 c xs.length)), delAll hp [b], ct, ?_, n _ _ (.inr (.inr ⟨0, c, rfl, h5, fun _ => rfl⟩)) (fun q hq => ?_)⟩
    · have hr : rd (fun x => [b].contains x) hp 0 rdDepth (.r (.sl b g off E.sz xs.length)) = some (.lit 0 c xs.length) := rd_rows (n := 5) (by simp) h4 h6 h7
      have hbs : (refDeep hp 3 [b]).filter (fun x => decide (x < PB)) = [b] := by rw [hd]; simp [hlt]
      simp only [insI, hx, A1.cells, List.flatMap_cons, List.flatMap_nil, refC, refR, if_true, List.append_nil, mkS_hp, hbs, traverse_cons, traverse_nil, hr]
      exact congrArg some (set_mk t _ _)
    · rw [Heap.get_delAll, if_neg]; simp; rintro rfl; exact hq hb
theorem k_frzA {α : Type} {E : Rep α} {P : List Nat} {f : Bool} {t : Nat} {a : AC} {xs : List α} (pre post : List IV) (hx : (mkS nt σ hp ct).get t = .v (.agg (pre.map I ++ a :: post.map I))) (hs : so P E f hp a xs) (hP : P.all (fun b => decide (b < PB)) = true)
    (n : ∀ v hp', sv E f v xs → Fr P hp hp' → wpL G R nt l Q (upd σ t (.v (.agg ((pre ++ v :: post).map I)))) hp' ct) : wpL G R nt (.frz t :: l) Q σ hp ct := by
  have hnil : ∀ c : List IV, (c.map I).flatMap (refC true) = [] := by
    intro c; rw [List.flatMap_eq_nil_iff]; intro x hx'; simp at hx'; obtain ⟨v, _, rfl⟩ := hx'; rfl
  have htr : ∀ (q : Nat → Bool) (a : AC) (v : IV), rd q hp 0 rdDepth a = some v → traverse (rd q hp 0 rdDepth) (pre.map I ++ a :: post.map I) = some (pre ++ v :: post) := by
    intro q a v ha
    clear hx n
    induction pre with
    | nil => simp only [List.map_nil, List.nil_append, traverse_cons, ha, rd_inls]
    | cons x pre ih => simp only [List.map_cons, List.cons_append, traverse_cons, rd_inl, ih]
  simp only [wpL]
  have hfm : (A1.agg (pre.map I ++ a :: post.map I)).cells.flatMap (refC true) = refC true a := by
    simp only [A1.cells, List.flatMap_append, List.flatMap_cons, hnil, List.nil_append, List.append_nil]
  have hres : ∀ v, (List.map I (pre ++ v :: post)) = pre.map I ++ I v :: post.map I := by intro v; simp
  rcases hs with ⟨rfl, rfl⟩ | ⟨rfl, rfl⟩ | ⟨b, g, off, cs, c, hb, rfl, h4, h5, h6, h7⟩
  · refine ⟨upd σ t (.v (.agg ((pre ++ .nilS :: post).map I))), hp, ct, ?_, n _ _ (.inl ⟨rfl, rfl⟩) (Fr.refl _ _)⟩
    have := htr (fun _ => false) (I .nilS) .nilS (rd_inl _ _ _ _ _)
    simp only [insI, hx, hfm, refC, refR]
    simp only [refDeep, List.flatMap_nil, List.append_nil, List.filter_nil]
    rw [show (fun b => ([] : List Nat).contains b) = fun _ => false from rfl]
    simp only [A1.cells, mkS_hp, this]
    exact congrArg some (set_mk t _ _)
  · refine ⟨upd σ t (.v (.agg ((pre ++ .emp :: post).map I))), hp, ct, ?_, n _ _ (.inr (.inl ⟨rfl, rfl⟩)) (Fr.refl _ _)⟩
    have := htr (fun _ => false) (I .emp) .emp (rd_inl _ _ _ _ _)
    simp only [insI, hx, hfm, refC, refR]
    simp only [refDeep, List.flatMap_nil, List.append_nil, List.filter_nil]
    rw [show (fun b => ([] : List Nat).contains b) = fun _ => false from rfl]
    simp only [A1.cells, mkS_hp, this]
    exact congrArg some (set_mk t _ _)
  · have hlt : b < PB := by simpa using List.all_eq_true.1 hP b hb
    have hg : hp.get b = some (.cells g (cs.map I)) := (Heap.row_eq h4).1
    have hd : refDeep hp 3 [b] = [b] := by simp [refDeep, hg, hnil]
    refine ⟨upd σ t (.v (.agg ((pre ++ .lit 0 c xs.length :: post).map I))), delAll hp [b], ct, ?_, n _ _ (.inr (.inr ⟨0, c, rfl, h5, fun _ => rfl⟩)) (fun q hq => ?_)⟩
    · have hr : rd (fun x => [b].contains x) hp 0 rdDepth (.r (.sl b g off E.sz xs.length)) = some (.lit 0 c xs.length) := rd_rows (n := 5) (by simp) h4 h6 h7
      have hbs : (refDeep hp 3 [b]).filter (fun x => decide (x < PB)) = [b] := by rw [hd]; simp [hlt]
      have := htr _ _ _ hr
      simp only [insI, hx, hfm, refC, refR, if_true, mkS_hp, hbs]
      simp only [A1.cells, this]
      exact congrArg some (set_mk t _ _)
    · rw [Heap.get_delAll, if_neg]; simp; rintro rfl; exact hq hb
theorem wp_ghost {l : List Ins} {Q : Ex → Sl → Heap → Nat → Prop} (h : wpL G R nt l (fun σ hp ct => wpE G R nt c σ hp ct Q) σ hp ct) : wpE G R nt (.ghost l c) σ hp ct Q := by
  obtain ⟨σ1, hp1, ct1, h1, n, ex, σ2, hp2, ct2, h2, h3⟩ := wpL_sound h
  exact ⟨n, ex, σ2, hp2, ct2, by simp only [exec, h1]; exact h2, h3⟩
theorem k_movT {x : Opd} {a : List A1} (h : evσ nt σ x = .tup a) (n : wpL G R nt l Q (upd σ d (.tup a)) hp ct) : wpL G R nt (.op (some d) none (.mov x) :: l) Q σ hp ct := k_op (by rw [x_mov, h]; rfl) n
theorem k_cvBS {P : List Nat} {f : Bool} {x : Opd} {a : AC} {xs : List Int} (hx : evσ nt σ x = .v (.c a)) (hs : sa P (Rep.int .u8) f hp a xs) (n : wpL G R nt l Q (upd σ d (V (.str (bytesStr xs)))) hp ct) : wpL G R nt (.op (some d) none (.cvBS x) :: l) Q σ hp ct := by
  obtain ⟨c, hc, hcs⟩ := hs.cells
  have hstr : isStrC a = false := by
    rcases hs with ⟨v, rfl, ⟨rfl, rfl⟩ | ⟨rfl, rfl⟩ | ⟨t, c, rfl, h4, h5⟩⟩ | ⟨rfl, rfl⟩ | ⟨rfl, rfl⟩ | ⟨b, g, off, cs, c, hb, rfl, h4⟩ <;> rfl
  refine k_op (v := V (.str (bytesStr xs))) (hp' := hp) (ct' := ct) ?_ n
  have hcs : slCells hp 1 a = some (c.map I, xs.length) := hcs
  have key : traverse byteOf (c.map I) = some (bytesStr xs) := by rw [rows_ints hc]; exact byteOfs xs
  simp only [opK, step, ev_mk, hx, hstr, mkS_hp, Bool.false_eq_true, if_false, hcs, key, okv, Option.map_some, mkS_ct]
theorem k_cvSB {f : Bool} {x : Opd} {s : List UInt8} {z : List Int} (hx : evσ nt σ x = V (.str s)) (e : strBytes s = some z) (n : ∀ a' hp', so [d] (Rep.int .u8) f hp' a' z → Fr [d] hp hp' → wpL G R nt l Q (upd σ d (.v (.c a'))) hp' (ct + 1)) : wpL G R nt (.op (some d) none (.cvSB x) :: l) Q σ hp ct := by
  unfold strBytes at e
  split at e
  · rename_i hb
    have e := Option.some.inj e
    subst e
    have hl : (strInts s).length = s.length := by simp [strInts]
    refine k_op (v := .v (.c (.r (.sl d ct 0 1 s.length)))) (hp' := hp.set d (.cells ct (s.map fun c => I (.int .u8 c.toNat)))) (ct' := ct + 1) ?_
      (n _ _ (.inr (.inr ⟨d, ct, 0, (strInts s).map (IV.int .u8), (strInts s).map (IV.int .u8), by simp, by rw [hl]; rfl, by rw [strInts_cells]; simp [Heap.row, Heap.get_set], ints_rows _, ?_, ?_⟩)) (Fr.set _ _ _))
    · simp only [opK, step, ev_mk, hx, AV.strv, V, hb, if_true, mkS_hp, mkS_ct]; rfl
    · rw [hl]; simp [Rep.int, hl]
    · rw [hl, List.drop_zero, List.take_of_length_le]; simp [Rep.int, hl]
  · simp at e
theorem k_appS {P : List Nat} {f : Bool} {bytes : Nat} {x y : Opd} {a : AC} {s : List UInt8} {xs zs : List Int} (hx : evσ nt σ x = .v (.c a)) (hs : so P (Rep.int .u8) f hp a xs) (hy : evσ nt σ y = V (.str s)) (e : app bytes xs (strInts s) = some zs)
    (nx : ∀ a' hp' ct', so (d :: P) (Rep.int .u8) f hp' a' zs → Fr (d :: P) hp hp' → wpL G R nt l Q (upd σ d (.v (.c a'))) hp' ct') : wpL G R nt (.op (some d) none (.app 1 bytes true x y) :: l) Q σ hp ct := by
  have key : wpL G R nt (.op (some d) none (.app 1 bytes false x (.c (.lit 0 ((strInts s).map (.int .u8)) (strInts s).length))) :: l) Q σ hp ct :=
    k_app (E := Rep.int .u8) (f := f) (P' := []) (ys := strInts s) hx hs rfl (sv.any [] hp (sv_lit f (ints_rows _) rfl)) e rfl nx
  have e1 : slCells hp 1 (.r (.i (.str s))) = slCells hp 1 (.r (.i (.lit 0 ((strInts s).map (.int .u8)) (strInts s).length))) := by
    simp only [slCells, List.length_map, Nat.mul_one, if_true]
    rw [strInts_cells]; simp [strInts]
  simp only [wpL] at key ⊢
  have e2 : opK G R (mkS nt σ hp ct) ((some d).getD 0) (.app 1 bytes true x y) = opK G R (mkS nt σ hp ct) ((some d).getD 0) (.app 1 bytes false x (.c (.lit 0 ((strInts s).map (.int .u8)) (strInts s).length))) := by
    rw [x_app, x_app, hx, hy]
    simp only [evσ_c, V, I, isStrC, if_true, e1]
  rw [e2]; exact key

theorem e_nor {res : List Res} {lent : Bool} {P : List A1 → Prop} {vs : List A1} (h : ResP nt σ hp [] lent res vs) (hP : P vs) : atEnd nt res (fin lent P) .normal σ hp ct := by
  obtain ⟨rs, h1, h2⟩ := h.ev
  exact ⟨rs, h1, vs, h2, hP⟩
theorem e_norM {res : List Res} {P : List A1 → List IV → Prop} {vs : List A1} {cells' : List IV} {cs2 : List AC} (hb : hp.get PB = some (.cells 0 cs2)) (hc : ∀ b g, BackP hp [(PB, b, g)] false cs2 cells') (h : ∀ b g, ResP nt σ hp [(PB, b, g)] false res vs) (hP : P vs cells') : atEnd nt res (finM P) .normal σ hp ct :=
  e_retM (ct := ct) hb hc h hP

/-- A slice that a method gives back. -/
theorem sa.backM {α : Type} {P : List Nat} {E : Rep α} {f : Bool} {a : AC} {xs : List α} (h : sa P E f hp a xs) (hP : (!P.contains PB) = true) : ∃ v, (∀ b g, backC hp [(PB, b, g)] false a = some (I v)) ∧ sv E f v xs := by
  have hpl : ∀ b g, P.all (fun q => (backAt [(PB, b, g)] q).isNone) = true := by
    intro b g
    rw [List.all_eq_true]
    intro q hq
    have : PB ≠ q := by rintro rfl; simp [hq] at hP
    simp [backAt, this]
  obtain ⟨v, h1, h2⟩ := h.back false (fun q => nomatch q) [(PB, 0, 0)] (hpl 0 0)
  refine ⟨v, fun b g => ?_, h2⟩
  obtain ⟨v', h3, h4⟩ := h.back false (fun q => nomatch q) [(PB, b, g)] (hpl b g)
  rw [h3]
  -- the same reading
  have e : backC hp [(PB, b, g)] false a = backC hp [(PB, 0, 0)] false a := by
    rcases h with ⟨v, rfl, h⟩ | ⟨rfl, rfl⟩ | ⟨rfl, rfl⟩ | ⟨b', g', off, cs, c, hb, rfl, h2, h3, h4, h5⟩
    · rfl
    · rfl
    · rfl
    · have hne : PB ≠ b' := by rintro rfl; simp [hb] at hP
      have q : (fun x => (backAt [(PB, b, g)] x).isNone) = fun x => (backAt [(PB, 0, 0)] x).isNone := by funext x; simp only [backAt]; split <;> rfl
      have h0 : backAt [(PB, b, g)] b' = none := by simp [backAt, hne]
      have h1 : backAt [(PB, 0, 0)] b' = none := by simp [backAt, hne]
      simp only [backC, backR, h0, h1, q]
  rw [h3, h1] at e
  exact e
end

/- Whole runs. -/
def isTrue1 : Option (List A1 × Heap) → Bool
  | some ([.c (.r (.i (.bool true)))], _) => true
  | _ => false
theorem pc_true {G : Nat → List IV} {F : Nat → Option Fn} {X : Run} {f n d : Nat} {as : List A1} {fr : Bool} (h : isTrue1 (run G F X n d f as []) = true) : pc (lim G F X) f as fr (fun vs => vs = [.c (I (.bool true))]) := by
  intro lent _
  unfold isTrue1 at h
  split at h
  · rename_i hp e
    exact ⟨_, by simp only [pureCall, lim_of e, traverse_cons, back_sc (show (IV.bool true).fresh = true from rfl), traverse_nil], rfl⟩
  · simp at h
/-- The numbers that a law is handed. -/
def nums (b : Bool) (l : List Int) : IV := if b then .nilS else .lit 1 (l.map (.int .i64)) l.length
theorem sv_nums {b : Bool} {l : List Int} (h : b = true → l = []) : sv (Rep.int .i64) false (nums b l) l := by
  cases b with
  | true => rw [h rfl]; exact .inl ⟨rfl, rfl⟩
  | false => exact .inr (.inr ⟨1, _, rfl, ints_rows _, by simp⟩)
/-- What a law comes to. -/
theorem pc_law {R : Run} {f : Nat} {as : List A1} {fr : Bool} {P : List A1 → Prop} (h : pc R f as fr P) (hP : ∀ vs, P vs → vs = [.c (I (.bool true))]) : ∃ hp, R f as [] = some ([.c (I (.bool true))], hp) := by
  obtain ⟨vs, h1, h2⟩ := h false (fun q => nomatch q)
  obtain rfl := hP vs h2
  unfold pureCall at h1
  split at h1
  · rename_i rs hp e
    refine ⟨hp, ?_⟩
    rw [e]
    cases rs with
    | nil => simp at h1
    | cons a rs =>
      rw [traverse_cons] at h1
      split at h1
      · simp at h1
      · rename_i b hb
        cases rs with
        | cons c rs =>
          rw [traverse_cons] at h1
          split at h1
          · simp at h1
          · rename_i bs hbs
            split at hbs
            · simp at hbs
            · split at hbs
              · simp at hbs
              · have := Option.some.inj h1; have hbs := Option.some.inj hbs; subst hbs; simp at this
        | nil =>
          simp only [traverse_nil] at h1
          obtain rfl : b = .c (I (.bool true)) := by simpa using h1
          cases a with
          | agg xs =>
            simp only [back1] at hb
            cases hq : traverse (backC hp [] false) xs <;> rw [hq] at hb <;> simp at hb
          | c x =>
            simp only [back1] at hb
            cases x with
            | clo g cs =>
              simp only [backC, mkClo] at hb
              cases hq : traverse (backR hp [] false) cs <;> rw [hq] at hb <;> simp at hb
              unfold mkClo at hb; split at hb <;> simp at hb
            | r a =>
              cases a with
              | i v => simp [backC, backR] at hb; rw [hb]
              | ptr b g off => simp [backC, backR, backAt] at hb
              | map b g => simp [backC, backR, backAt] at hb
              | sl b g off sz len =>
                simp only [backC, backR, backAt] at hb
                split at hb
                · rename_i v hv
                  simp only [rdDepth, rd, if_true, backAt, Option.isNone_none] at hv
                  simp at hb
                  split at hv
                  · simp at hv
                  · split at hv
                    · split at hv
                      · simp at hv
                      · have hv := Option.some.inj hv; subst hv; simp at hb
                    · simp at hv
                · simp at hb
  · simp at h1
end Go.Abs
