/-
  MixesAddUp, as a law of lists of numbers.
-/
import Derived.Test.YtcbepglkfglclaaDoorHM6Ab
import Derived.Test.YtcbepglkfglclaaDoorHAbsP1
namespace Go.Proofs.YtcbepglkfglclaaDoor
open Go Go.Abs
set_option maxRecDepth 100000
set_option maxHeartbeats 1000000

theorem within_is (n lo hi : Int) : F74_media_within n lo hi = some (decide (n ≥ lo) && decide (n ≤ hi)) := rfl
theorem isSample_is (n : Int) (h : -32768 ≤ n ∧ n ≤ 32767) : F72_media_isSample n = some true := by
  simp [F72_media_isSample, within_is, h.1, h.2]
theorem below_is (x n : Int) (h1 : 1 ≤ n) (h2 : n ≤ 4611686018427387904) : F108_flashmake_Below x n = some (x % n) := by
  have hn : ¬ n < 1 := by omega
  have hn0 : n ≠ 0 := by omega
  have hlt : x.tmod n < n := Int.tmod_lt_of_pos _ (by omega)
  have hgt : -n < x.tmod n := by
    have := Int.tmod_lt_of_pos (-x) (b := n) (by omega)
    rw [Int.neg_tmod] at this; omega
  rw [emod_tmod x n h1]
  by_cases h : x.tmod n < 0
  · simp (disch := omega) [F108_flashmake_Below, hn, grem, hn0, h, bnd, w64]
  · simp [F108_flashmake_Below, hn, grem, hn0, h, bnd]
/-- A stream of numbers that may still be drawn from. -/
def SOk (s : T_flashmake_Stream) (k : Int) : Prop := s.L.length ≤ 4611686018427387904 ∧ 0 ≤ s.at_ ∧ s.at_ ≤ k
theorem next_is (s : T_flashmake_Stream) (n k : Int) (hs : SOk s k) (hk : k ≤ 4611686018427387904) (h1 : 1 ≤ n) (h2 : n ≤ 4611686018427387904) :
    ∃ r, F58_flashmake_Stream_Next s n = some (⟨s.L, s.at_ + 1⟩, r) ∧ 0 ≤ r ∧ r < n := by
  obtain ⟨hl, ha, hb⟩ := hs
  have e1 : IntKind.wrap .i64 (s.at_ + 1) = s.at_ + 1 := w64 (by omega) (by omega)
  have hm : ∀ x : Int, 0 ≤ x % n ∧ x % n < n := fun x => ⟨Int.emod_nonneg _ (by omega), Int.emod_lt_of_pos _ (by omega)⟩
  unfold F58_flashmake_Stream_Next
  rw [e1]
  by_cases h0 : s.L.length = 0
  · have hz : (s.L.length : Int) = 0 := by omega
    simp [hz, below_is _ _ h1 h2]
    exact hm _
  · have hz : ¬ ((s.L.length : Int) = 0) := by omega
    have e2 : IntKind.wrap .i64 (s.at_ + 1 - 1) = s.at_ := by rw [w64] <;> omega
    have hi : 0 ≤ s.at_.tmod s.L.length ∧ s.at_.tmod s.L.length < s.L.length := ⟨Int.tmod_nonneg _ ha, Int.tmod_lt_of_pos _ (by omega)⟩
    obtain ⟨x, hx, _⟩ := idx_of hi.1 hi.2
    rw [e2]
    have hne : s.L ≠ [] := by rintro q; simp [q] at h0
    have hb : ((s.L.length : Int) == 0) = false := by simp [hne]
    simp [hb, hne, grem, gquo, hx, below_is _ _ h1 h2, below_is _ 1073741824 (by omega) (by omega)]
    exact hm _
theorem range_is (s : T_flashmake_Stream) (lo hi k : Int) (hs : SOk s k) (hk : k ≤ 4611686018427387904) (h1 : lo ≤ hi) (h2 : -1000000000000 ≤ lo) (h3 : hi ≤ 1000000000000) :
    ∃ r, F15_flashmake_Stream_Range s lo hi = some (⟨s.L, s.at_ + 1⟩, r) ∧ lo ≤ r ∧ r ≤ hi := by
  obtain ⟨r, e, r1, r2⟩ := next_is s (hi - lo + 1) k hs hk (by omega) (by omega)
  have hlt : ¬ hi < lo := by omega
  refine ⟨lo + r, ?_, by omega, by omega⟩
  simp (disch := omega) [F15_flashmake_Stream_Range, hlt, w64, e, bnd]

def Good (x : List Int) : Prop := ∀ a ∈ x, -32768 ≤ a ∧ a ≤ 32767
theorem check_is (x : List Int) (hl : x.length ≤ 20000) (h : Good x) : F33_media_CheckSamples x = some 0 := by
  have hn : ¬ ((x.length : Int) > 20000) := by omega
  have := loop_for (N := x.length) (step := fun s : Int => F33_media_CheckSamples_l0 x s) (fun k => (k : Int)) (.inl ()) (fun k hk => by
    have hk' : (k : Int) < x.length := by omega
    have hg := isSample_is x[k] (h _ (List.getElem_mem hk))
    simp (disch := omega) [F33_media_CheckSamples_l0, hk, idx_at hk, hg, w64]) (by simp [F33_media_CheckSamples_l0])
  simp only [Int.natCast_zero] at this
  simp [F33_media_CheckSamples, hn, this, lret]
theorem equal_is (x : List Int) (hl : x.length ≤ 20000) : F32_slices_Equal_int_int x x = some true := by
  have := loop_for (N := x.length) (step := fun s : Int => F32_slices_Equal_int_int_l0 x x s) (fun k => (k : Int)) (.inl ()) (fun k hk => by
    simp (disch := omega) [F32_slices_Equal_int_int_l0, hk, idx_at hk, w64]) (by simp [F32_slices_Equal_int_int_l0])
  simp only [Int.natCast_zero] at this
  simp [F32_slices_Equal_int_int, this, lret]
theorem errs_is : F31_flashkeep2_errs [0, 0, 0, 0] = some 0 := by
  have : loopO (fun s : Int => F31_flashkeep2_errs_l0 [0, 0, 0, 0] s) 0 = some (.inl ()) := loopO_of (n := 6) rfl
  simp [F31_flashkeep2_errs, this, lret]

def cutI (n : Int) : Int := gmin (gmax n (-32768)) 32767
theorem cut_is (n : Int) : F73_media_cut n = some (cutI n) := rfl
theorem cutI_good (n : Int) : -32768 ≤ cutI n ∧ cutI n ≤ 32767 := by unfold cutI gmin gmax; split <;> split <;> omega
theorem cutI_id (n : Int) (h : -32768 ≤ n ∧ n ≤ 32767) : cutI n = n := by unfold cutI gmin gmax; split <;> split <;> omega

/-- One row added to another. -/
def addL : List Int → List Int → List Int
  | [], o => o
  | _, [] => []
  | a :: y, b :: o => (b + a) :: addL y o
theorem addL_length : ∀ y o : List Int, (addL y o).length = o.length
  | [], o => by simp [addL]
  | _ :: _, [] => by simp [addL]
  | a :: y, b :: o => by simp [addL, addL_length y o]
theorem addL_nil : ∀ y : List Int, addL y [] = []
  | [] => rfl
  | _ :: _ => rfl
theorem addL_comm : ∀ x y o : List Int, addL y (addL x o) = addL x (addL y o)
  | [], y, o => by simp [addL]
  | _ :: _, [], o => by simp [addL]
  | a :: x, b :: y, [] => by simp [addL]
  | a :: x, b :: y, c :: o => by simp [addL, addL_comm x y o]; omega
theorem addL_zero : ∀ (n : Nat) (o : List Int), addL (List.replicate n 0) o = o
  | 0, o => rfl
  | n + 1, [] => by rw [addL_nil]
  | n + 1, b :: o => by simp [List.replicate_succ, addL, addL_zero n o]
theorem addL_into : ∀ x : List Int, addL x (List.replicate x.length 0) = x
  | [] => rfl
  | a :: x => by simp [List.replicate_succ, addL, addL_into x]
/-- One step more. -/
theorem addL_step : ∀ (y o : List Int) (k : Nat) (h : k < y.length) (h2 : k < o.length), (addL (y.take k) o).set k ((addL (y.take k) o)[k]'(by rw [addL_length]; exact h2) + y[k]) = addL (y.take (k + 1)) o ∧ (addL (y.take k) o)[k]'(by rw [addL_length]; exact h2) = o[k]
  | a :: y, b :: o, 0, _, _ => by simp [addL]
  | a :: y, b :: o, k + 1, h, h2 => by
    obtain ⟨i1, i2⟩ := addL_step y o k (by simpa using h) (by simpa using h2)
    constructor
    · simp [addL]; exact i1
    · simp [addL]; exact i2
theorem addL_bound (B : Int) : ∀ y o : List Int, Good y → (∀ a ∈ o, -B ≤ a ∧ a ≤ B) → ∀ a ∈ addL y o, -(B + 32768) ≤ a ∧ a ≤ B + 32768
  | [], o, _, h, a, ha => by simp [addL] at ha; have := h a ha; omega
  | _ :: _, [], _, _, a, ha => by simp [addL] at ha
  | c :: y, b :: o, hy, h, a, ha => by
    simp [addL] at ha
    rcases ha with rfl | ha
    · have h1 := hy c (by simp); have h2 := h b (by simp); omega
    · exact addL_bound B y o (fun x hx => hy x (by simp [hx])) (fun x hx => h x (by simp [hx])) a ha

theorem add_is (y o : List Int) (h : y.length ≤ o.length) (hl : o.length ≤ 20000) (hy : Good y) (ho : ∀ a ∈ o, -100000 ≤ a ∧ a ≤ 100000) :
    loopO (fun s : List Int × Int => F29_media_Mix_l2 y s.1 s.2) (o, 0) = some (addL y o) := by
  have := loop_for (N := y.length) (step := fun s : List Int × Int => F29_media_Mix_l2 y s.1 s.2) (fun k => (addL (y.take k) o, (k : Int))) (addL y o) (fun k hk => by
    have hko : k < o.length := by omega
    obtain ⟨i1, i2⟩ := addL_step y o k hk hko
    have hlen : k < (addL (y.take k) o).length := by rw [addL_length]; exact hko
    have g1 := hy _ (List.getElem_mem hk)
    have g2 := ho _ (List.getElem_mem hko)
    rw [← i2] at g2
    simp (disch := omega) [F29_media_Mix_l2, hk, idx_at hk, idx_at hlen, bnd, w64, i1]) (by simp [F29_media_Mix_l2])
  simpa [addL] using this
theorem cuts_is (o : List Int) (hl : o.length ≤ 20000) : loopO (fun s : List Int × Int => F29_media_Mix_l3 o s.1 s.2) (o, 0) = some (o.map cutI) := by
  have := loop_for (N := o.length) (step := fun s : List Int × Int => F29_media_Mix_l3 o s.1 s.2) (fun k => (mapk cutI o k, (k : Int))) (o.map cutI) (fun k hk => by
    simp (disch := omega) [F29_media_Mix_l3, hk, mapk_idx _ _ _ hk, cut_is, bnd, w64, mapk_set _ _ _ hk]) (by simp [F29_media_Mix_l3, mapk_all])
  simpa [mapk_zero] using this
theorem gmax_nat (a b : Nat) : gmax (a : Int) (b : Int) = ((max a b : Nat) : Int) := by unfold gmax; split <;> omega
def mix (x y : List Int) : List Int := (addL y (addL x (List.replicate (max x.length y.length) 0))).map cutI
theorem mix_is (x y : List Int) (hx : x.length ≤ 20000) (hy : y.length ≤ 20000) (gx : Good x) (gy : Good y) : F29_media_Mix [x, y] = some (mix x y, 0) := by
  have e0 : loopO (fun s : Int × Int => F29_media_Mix_l0 [x, y] s.1 s.2) (0, 0) = some (.inl ((max x.length y.length : Nat) : Int)) := by
    have m0 : gmax 0 (x.length : Int) = x.length := by unfold gmax; split <;> omega
    refine loop_for (N := 2) (step := fun s : Int × Int => F29_media_Mix_l0 [x, y] s.1 s.2) (fun k => (if k = 0 then 0 else if k = 1 then (x.length : Int) else ((max x.length y.length : Nat) : Int), (k : Int))) _ (fun k hk => ?_) (by simp [F29_media_Mix_l0])
    match k, hk with
    | 0, _ => simp [F29_media_Mix_l0, idx, check_is x hx gx, bnd, m0]; exact w64 (by omega) (by omega)
    | 1, _ => simp [F29_media_Mix_l0, idx, check_is y hy gy, bnd, gmax_nat]; exact w64 (by omega) (by omega)
  have hn : ((max x.length y.length : Nat) : Int) ≤ 20000 := by omega
  have b0 : ∀ a ∈ List.replicate (max x.length y.length) (0 : Int), -100000 ≤ a ∧ a ≤ 100000 := fun a ha => by simp at ha; omega
  have b1 : ∀ a ∈ addL x (List.replicate (max x.length y.length) 0), -100000 ≤ a ∧ a ≤ 100000 := fun a ha => by
    have := addL_bound 0 x _ gx (fun a ha => by simp at ha; omega) a ha
    omega
  have e1 : loopO (fun s : List Int × Int => F29_media_Mix_l1 [x, y] s.1 s.2) (List.replicate (max x.length y.length) 0, 0) = some (addL y (addL x (List.replicate (max x.length y.length) 0))) := by
    have a1 := add_is x _ (by simp; omega) (by simp; omega) gx b0
    have a2 := add_is y _ (by rw [addL_length]; simp; omega) (by rw [addL_length]; simp; omega) gy b1
    refine loop_for (N := 2) (step := fun s : List Int × Int => F29_media_Mix_l1 [x, y] s.1 s.2) (fun k => (if k = 0 then List.replicate (max x.length y.length) 0 else if k = 1 then addL x (List.replicate (max x.length y.length) 0) else addL y (addL x (List.replicate (max x.length y.length) 0)), (k : Int))) _ (fun k hk => ?_) (by simp [F29_media_Mix_l1])
    match k, hk with
    | 0, _ => simp [F29_media_Mix_l1, idx, a1]; exact w64 (by omega) (by omega)
    | 1, _ => simp [F29_media_Mix_l1, idx, a2]; exact w64 (by omega) (by omega)
  have e2 := cuts_is (addL y (addL x (List.replicate (max x.length y.length) 0))) (by rw [addL_length, addL_length]; simp; omega)
  simp only [F29_media_Mix, e0, lret]
  rw [mkN_of (by omega) (by omega) (by omega)]
  simp [e1, e2, mix]
theorem mix_comm (x y : List Int) : mix x y = mix y x := by
  unfold mix; rw [Nat.max_comm, addL_comm]
theorem mix_length (x y : List Int) : (mix x y).length = max x.length y.length := by simp [mix, addL_length]
theorem mix_good (x y : List Int) : Good (mix x y) := by
  intro a ha
  obtain ⟨b, _, rfl⟩ := List.mem_map.1 ha
  exact cutI_good b
theorem map_cut (x : List Int) (h : Good x) : x.map cutI = x := by
  conv => rhs; rw [← List.map_id x]
  exact List.map_congr_left fun a ha => cutI_id a (h a ha)
theorem mix_zero (x : List Int) (h : Good x) : mix x (List.replicate x.length 0) = x := by
  unfold mix
  rw [addL_zero, List.length_replicate, Nat.max_self, addL_into, map_cut x h]
theorem louder_is (x : List Int) (hl : x.length ≤ 20000) (h : Good x) : F30_media_Louder x 256 = some (x, 0) := by
  have e0 : loopO (fun s : List Int × Int => F30_media_Louder_l0 x 256 s.1 s.2) (List.replicate x.length 0, 0) = some (x.map id) := by
    have := loop_for (N := x.length) (step := fun s : List Int × Int => F30_media_Louder_l0 x 256 s.1 s.2) (fun k => (newk id 0 x k, (k : Int))) (x.map id) (fun k hk => by
      have g := h _ (List.getElem_mem hk)
      have hset := newk_set id 0 x k hk
      have hd : Int.fdiv (x[k] * 256) (2 ^ 8) = x[k] := by
        rw [Int.fdiv_eq_ediv_of_nonneg _ (by decide)]; simp
      have hw : IntKind.wrap .i64 (x[k] * 256) = x[k] * 256 := w64 (by omega) (by omega)
      simp only [id] at hset
      simp only [F30_media_Louder_l0, idx_at hk, newk_idx _ _ _ _ hk, Option.bind_some, hw, hd, cut_is, cutI_id _ g, bnd, Int.toNat_natCast, hset]
      simp (disch := omega) [hk, w64]) (by simp [F30_media_Louder_l0, newk_all])
    simpa [newk_zero] using this
  simp only [F30_media_Louder, check_is x hl h, within_is]
  rw [mkN_of (by omega) (by omega) (by omega)]
  simp only [Int.toNat_natCast, Option.bind_some, e0, List.map_id]
  simp
/-- Numbers that are drawn. -/
theorem draws_is (y : T_flashmake_Stream × Int) (s : T_flashmake_Stream) (k : Int) (hs : SOk s k) (hk : k ≤ 1000) (h : 0 ≤ y.2 ∧ y.2 ≤ 9)
    {step : T_flashmake_Stream × Int → List Int → Int → T_flashmake_Stream → Option ((List Int × Int × T_flashmake_Stream) ⊕ (List Int × T_flashmake_Stream))}
    (hst : ∀ l n s, step y l n s = bif decide (n < y.2) then ((F15_flashmake_Stream_Range s (-32768) 32767).bind fun y45 => (app 8 l [y45.2]).bind fun y64 => some (.inl (y64, IntKind.wrap .i64 (n + 1), y45.1))) else some (.inr (l, s))) :
    ∃ x s', loopO (fun q : List Int × Int × T_flashmake_Stream => step y q.1 q.2.1 q.2.2) ([], 0, s) = some (x, s') ∧ x.length ≤ 9 ∧ Good x ∧ SOk s' (k + 9) := by
  obtain ⟨e, h1, h2⟩ := loopO_ind (step := fun q : List Int × Int × T_flashmake_Stream => step y q.1 q.2.1 q.2.2) (fun q => 0 ≤ q.2.1 ∧ q.2.1 ≤ y.2 ∧ (q.1.length : Int) = q.2.1 ∧ Good q.1 ∧ SOk q.2.2 (k + q.2.1)) (fun e => e.1.length ≤ 9 ∧ Good e.1 ∧ SOk e.2 (k + 9)) (fun q => (y.2 - q.2.1).toNat) (fun q hq => by
      obtain ⟨l, n, s⟩ := q
      obtain ⟨q0, q1, q2, q3, q4⟩ := hq
      simp only [] at q0 q1 q2 q3 q4
      simp only [hst]
      by_cases hlt : n < y.2
      · obtain ⟨r, e, r1, r2⟩ := range_is s (-32768) 32767 _ q4 (by omega) (by omega) (by omega) (by omega)
        refine .inr ⟨(l ++ [r], n + 1, ⟨s.L, s.at_ + 1⟩), ?_, ⟨by simp only []; omega, by simp only []; omega, by simp; omega, ?_, ?_⟩, by simp only []; omega⟩
        · rw [e]; simp only [hlt, decide_true, cond_true, Option.bind_some]
          rw [app_of (by simp; omega) (by simp; omega), w64 (by omega) (by omega)]
          rfl
        · intro a ha
          rcases List.mem_append.1 ha with ha | ha
          · exact q3 a ha
          · simp at ha; omega
        · obtain ⟨a1, a2, a3⟩ := q4
          exact ⟨a1, by simp only []; omega, by simp only []; omega⟩
      · refine .inl ⟨(l, s), by simp [hlt], by simp only []; omega, q3, ?_⟩
        obtain ⟨a1, a2, a3⟩ := q4
        exact ⟨a1, a2, by simp only []; omega⟩) ([], 0, s) ⟨by simp, by simp; omega, by simp, by simp [Good], by simpa using hs⟩
  exact ⟨e.1, e.2, h1, h2⟩

theorem law_MixesAddUp (l : List Int) (hl : l.length ≤ 4611686018427387904) : F6_flashkeep2_MixesAddUp l = some true := by
  have hs : SOk ⟨l, 0⟩ 0 := ⟨hl, Int.le_refl _, Int.le_refl _⟩
  obtain ⟨c, e1, c1, c2⟩ := range_is ⟨l, 0⟩ 0 9 0 hs (by omega) (by omega) (by omega) (by omega)
  obtain ⟨x, s1, e2, x1, x2, x3⟩ := draws_is (⟨l, 0 + 1⟩, c) ⟨l, 0 + 1⟩ 1 ⟨hl, by simp, by simp⟩ (by omega) ⟨c1, c2⟩ (step := F6_flashkeep2_MixesAddUp_l0) (fun _ _ _ => rfl)
  obtain ⟨d, e3, d1, d2⟩ := range_is s1 0 9 _ x3 (by omega) (by omega) (by omega) (by omega)
  obtain ⟨y, s2, e4, y1, y2, y3⟩ := draws_is (⟨s1.L, s1.at_ + 1⟩, d) ⟨s1.L, s1.at_ + 1⟩ 20 ⟨x3.1, by have := x3.2; simp only []; omega, by have := x3.2; simp only []; omega⟩ (by omega) ⟨d1, d2⟩ (step := F6_flashkeep2_MixesAddUp_l1) (fun _ _ _ => rfl)
  have gz : Good (List.replicate x.length 0) := fun a ha => by simp at ha; omega
  unfold F6_flashkeep2_MixesAddUp
  simp only [e1, Option.bind_some]
  rw [e2]
  simp only [Option.bind_some, e3]
  rw [e4]
  simp only [Option.bind_some]
  rw [mix_is x y (by omega) (by omega) x2 y2, mix_is y x (by omega) (by omega) y2 x2]
  simp only [Option.bind_some]
  rw [mkN_of (by omega) (by omega) (by omega)]
  simp only [Option.bind_some, Int.toNat_natCast]
  rw [mix_is x _ (by omega) (by simp; omega) x2 gz, louder_is x (by omega) x2, mix_zero x x2, mix_comm y x]
  simp only [Option.bind_some, errs_is]
  rw [equal_is (mix x y) (by rw [mix_length]; omega), equal_is x (by omega), check_is (mix x y) (by rw [mix_length]; omega) (mix_good x y), mix_length, gmax_nat]
  simp [F18_flashkeep2_ready]
end Go.Proofs.YtcbepglkfglclaaDoor
