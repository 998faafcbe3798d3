/-
  HoursTurn: the turns, and the law.
-/
import Derived.Test.YtcbepglkfglclaaDoorHM11Pb
namespace Go.Proofs.YtcbepglkfglclaaDoor
open Go Go.Abs
set_option maxRecDepth 100000
set_option maxHeartbeats 1000000

def cnt (l : List Int) (q : Int) : Nat := l.countP fun x => decide (x ≤ q)
theorem cnt_all {l : List Int} {q : Int} (h : ∀ x ∈ l, x ≤ q) : cnt l q = l.length := by
  unfold cnt; rw [List.countP_eq_length]; intro x hx; simp [h x hx]
theorem cnt_add (l : List Int) (a q : Int) : cnt (l ++ [a]) q = cnt l q + if a ≤ q then 1 else 0 := by
  unfold cnt; rw [List.countP_append]; congr 1; by_cases h : a ≤ q <;> simp [h]
/-- Turns: at each one it is another thing than before, and between two nothing changes. -/
structure TGood (o : Int → Bool) (lo hi : Int) (l : List Int) : Prop where
  sorted : l.Pairwise (· < ·)
  mem : ∀ x ∈ l, lo ≤ x ∧ x < hi
  par : ∀ q, lo ≤ q → q < hi → (cnt l q % 2 == 1) = o (q / 60000)
  turn : ∀ x ∈ l, lo < x → o (x / 60000) ≠ o ((x - 1) / 60000)
theorem turns_is (h : T_api_Hours) (hg : HGood h) (w : T_api_Window) (h0 : 0 ≤ w.From) (h1 : w.From < w.To) (h2 : w.To ≤ 500000000) :
    ∃ l, loopO (fun s : List Int × Bool × Int => F48_dialplan_Turns_l0 h w s.1 s.2.1 s.2.2) ([], false, w.From) = some l ∧ TGood (op h) w.From w.To l ∧ l.length ≤ 1000000000 := by
  obtain ⟨e, e1, e2, e3⟩ := loopO_ind (step := fun s : List Int × Bool × Int => F48_dialplan_Turns_l0 h w s.1 s.2.1 s.2.2)
    (fun q => w.From ≤ q.2.2 ∧ q.2.2 ≤ 500060000 ∧ (q.1.length : Int) ≤ q.2.2 - w.From ∧ TGood (op h) w.From q.2.2 q.1 ∧ q.2.1 = (q.1.length % 2 == 1) ∧ (w.From < q.2.2 → q.2.1 = op h ((q.2.2 - 1) / 60000) ∧ q.2.2 % 60000 = 0) ∧ ∀ x ∈ q.1, x < w.To)
    (fun e => TGood (op h) w.From w.To e ∧ e.length ≤ 1000000000) (fun q => (500060000 - q.2.2).toNat) (fun q hq => by
      obtain ⟨l, was, at_⟩ := q
      obtain ⟨q0, q1, q2, q3, q4, q5, q6⟩ := hq
      simp only [] at q0 q1 q2 q3 q4 q5 q6
      simp only [F48_dialplan_Turns_l0]
      by_cases hlt : at_ < w.To
      · have hd : (decide (at_ < w.To)) = true := by simpa using hlt
        have hop := open_is h hg at_ (by omega) (by omega)
        have ht : at_.tmod 60000 = at_ % 60000 := Int.tmod_eq_emod_of_nonneg (by omega)
        have hnx : IntKind.wrap .i64 (at_ + IntKind.wrap .i64 (60000 - at_.tmod 60000)) = (at_ / 60000) * 60000 + 60000 := by
          rw [ht, w64 (n := 60000 - at_ % 60000) (by omega) (by omega), w64 (by omega) (by omega)]; omega
        have hall : ∀ x ∈ l, x < at_ := fun x hx => (q3.mem x hx).2
        have hmin : ∀ q, at_ ≤ q → q < (at_ / 60000) * 60000 + 60000 → q / 60000 = at_ / 60000 := fun q a b => by omega
        have hcl : ∀ q, at_ ≤ q → cnt l q = l.length := fun q hq => cnt_all fun x hx => by have := hall x hx; omega
        simp only [hd, cond_true, hop, Option.bind_some, hnx, bnd]
        cases hne : !(op h (at_ / 60000) == was) with
        | true =>
          have hne2 : op h (at_ / 60000) = !was := by
            revert hne; cases op h (at_ / 60000) <;> cases was <;> simp
          rw [app_of (by simp; omega) (by simp; omega)]
          simp only [cond_true, Option.bind_some]
          refine .inr ⟨(l ++ [at_], op h (at_ / 60000), (at_ / 60000) * 60000 + 60000), rfl, ⟨by (try simp only []); omega, by (try simp only []); omega, by simp; omega, ⟨?_, fun x hx => ?_, fun q a b => ?_, fun x hx hx0 => ?_⟩, ?_, fun _ => ⟨?_, by (try simp only []); omega⟩, fun x hx => ?_⟩, by (try simp only []); omega⟩
          · rw [List.pairwise_append]
            exact ⟨q3.sorted, by simp, fun x hx y hy => by simp at hy; subst hy; exact hall x hx⟩
          · rcases List.mem_append.1 hx with hx | hx
            · have := q3.mem x hx; simp only []; omega
            · simp at hx; subst hx; simp only []; omega
          · simp only [] at b
            rw [cnt_add]
            by_cases hq : at_ ≤ q
            · rw [if_pos hq, hcl q hq, hmin q hq b, hne2, q4]
              have : ((l.length + 1) % 2 == 1) = !(l.length % 2 == 1) := by
                rw [Bool.eq_iff_iff]; simp; omega
              exact this
            · rw [if_neg hq, Nat.add_zero]; exact q3.par q a (by omega)
          · rcases List.mem_append.1 hx with hx | hx
            · exact q3.turn x hx hx0
            · simp at hx; subst hx
              obtain ⟨r1, _⟩ := q5 hx0
              rw [hne2, ← r1]; cases was <;> simp
          · simp only [List.length_append, List.length_cons, List.length_nil]
            rw [hne2, q4, Bool.eq_iff_iff]; simp; omega
          · simp only []
            congr 1; omega
          · rcases List.mem_append.1 hx with hx | hx
            · exact q6 x hx
            · simp at hx; subst hx; exact hlt
        | false =>
          have hne2 : op h (at_ / 60000) = was := by
            revert hne; cases op h (at_ / 60000) <;> cases was <;> simp
          simp only [cond_false, Option.bind_some]
          refine .inr ⟨(l, was, (at_ / 60000) * 60000 + 60000), rfl, ⟨by (try simp only []); omega, by (try simp only []); omega, by (try simp only []); omega, ⟨q3.sorted, fun x hx => ?_, fun q a b => ?_, q3.turn⟩, q4, fun _ => ⟨?_, by (try simp only []); omega⟩, q6⟩, by (try simp only []); omega⟩
          · have := q3.mem x hx; simp only []; omega
          · simp only [] at b
            by_cases hq : at_ ≤ q
            · rw [hcl q hq, hmin q hq b, hne2, q4]
            · exact q3.par q a (by omega)
          · simp only []
            rw [← hne2]; congr 1; omega
      · refine .inl ⟨l, by simp [hlt], ⟨q3.sorted, fun x hx => ?_, fun q a b => q3.par q a (by omega), q3.turn⟩, by omega⟩
        exact ⟨(q3.mem x hx).1, q6 x hx⟩) ([], false, w.From) ⟨by (try simp only []); omega, by (try simp only []); omega, by simp, ⟨by simp, by simp, fun q a b => by simp only [] at b; omega, by simp⟩, by simp, fun hh => by simp only [] at hh; omega, by simp⟩
  exact ⟨e, e1, e2, e3⟩

theorem sorted_is (l : List Int) (h : l.Pairwise (· < ·)) (hl : l.length ≤ 1000000000) : F49_slices_IsSorted_int_int l = some true := by
  have hless : ∀ a b : Int, F90_cmp_Less_int a b = some (decide (a < b)) := fun a b => by
    have hn : ∀ x : Int, F137_cmp_isNaN_int x = some false := fun x => by simp [F137_cmp_isNaN_int, bnd]
    simp [F90_cmp_Less_int, hn, bnd]
  have e0 : IntKind.wrap .i64 ((l.length : Int) - 1) = (l.length : Int) - 1 := w64 (by omega) (by omega)
  have hlp : loopO (fun s : Int => F49_slices_IsSorted_int_int_l0 l s) ((l.length : Int) - 1) = some (.inl ()) := by
    obtain ⟨e, e1, e2⟩ := loopO_ind (step := fun s : Int => F49_slices_IsSorted_int_int_l0 l s) (fun q => -1 ≤ q ∧ q < l.length) (fun e => e = .inl ()) (fun q => (q + 1).toNat) (fun q hq => by
      obtain ⟨q0, q1⟩ := hq
      simp only [F49_slices_IsSorted_int_int_l0]
      by_cases hlt : q > 0
      · obtain ⟨k, rfl⟩ := Int.eq_ofNat_of_zero_le (show 0 ≤ q by omega)
        have hk : k < l.length := by omega
        have hk1 : k - 1 < l.length := by omega
        have hd : (decide (((k : Nat) : Int) > 0)) = true := by simpa using hlt
        have e : IntKind.wrap .i64 ((k : Int) - 1) = ((k - 1 : Nat) : Int) := by rw [w64 (by omega) (by omega)]; omega
        have hlt2 := List.pairwise_iff_getElem.1 h (k - 1) k hk1 hk (by omega)
        have hn : (decide (l[k] < l[k - 1])) = false := by simp; omega
        rw [hd, e, idx_at hk, idx_at hk1]
        simp only [cond_true, Option.bind_some, hless, hn, cond_false, bnd]
        exact .inr ⟨_, rfl, ⟨by omega, by omega⟩, by omega⟩
      · exact .inl ⟨.inl (), by simp [hlt], rfl⟩) ((l.length : Int) - 1) ⟨by omega, by omega⟩
    subst e2; exact e1
  simp only [F49_slices_IsSorted_int_int, bnd, e0, hlp, lret]
theorem errs_of (l : List Int) (h : loopF (fun s : Int => F31_flashkeep2_errs_l0 l s) 10 0 = some (.inl ())) : F31_flashkeep2_errs l = some 0 := by
  simp only [F31_flashkeep2_errs, loopO_of h, lret]
theorem errs2 : F31_flashkeep2_errs [0, 0] = some 0 := errs_of _ (by kernel_rfl)

theorem law_HoursTurn (x0 : List Int) (hl : x0.length ≤ 4611686018427387904) : F11_flashkeep2_HoursTurn x0 = some true := by
  have hs0 : SOk ⟨x0, 0⟩ 0 := ⟨hl, by simp, by simp⟩
  obtain ⟨s1, hs, h, e1, e2, hg, hk, hs1⟩ := hours_is ⟨x0, 0⟩ 0 hs0 (by omega)
  obtain ⟨fr, e3, fr1⟩ := pick_in s1 [0, 1, 3600000] _ hs1 (by omega) (by simp) (by simp)
  obtain ⟨to, e4, to1⟩ := pick_in ⟨s1.L, s1.at_ + 1⟩ [86400000, 432000000] _ hs1.one (by omega) (by simp) (by simp)
  have fr2 : 0 ≤ fr ∧ fr ≤ 3600000 := by simp at fr1; omega
  have to2 : 86400000 ≤ to ∧ to ≤ 432000000 := by simp at to1; omega
  obtain ⟨l, t1, t2, t3⟩ := turns_is h hg ⟨fr, to⟩ fr2.1 (by simp only []; omega) (by simp only []; omega)
  simp only [] at t1 t2
  obtain ⟨g, e5, g1, g2⟩ := range_is ⟨s1.L, s1.at_ + 1 + 1⟩ 0 (to - fr - 1) _ hs1.one.one (by omega) (by omega) (by omega) (by omega)
  have hw : F88_dialplan_CheckWindow ⟨fr, to⟩ = some 0 := by
    have c1 : (decide (fr < 0)) = false := by simp; omega
    have c2 : (decide (fr > to)) = false := by simp; omega
    have c3 : (decide (to > 345686400000)) = false := by simp; omega
    have c4 : (decide (IntKind.wrap .i64 (to - fr) > 34560000000)) = false := by rw [w64 (by omega) (by omega)]; simp; omega
    simp only [F88_dialplan_CheckWindow, c1, c2, c3, c4, Bool.or_self, cond_false]
  have ht : F48_dialplan_Turns h ⟨fr, to⟩ = some (l, 0) := by
    simp only [F48_dialplan_Turns, hours_ok h hg hk, hw, Option.bind_some, bne_self_eq_false, cond_false, t1]
  have ho := Open_is h hg hk (fr + g) (by omega) (by omega)
  have hlp : ∃ n : Int, loopO (fun s : Int × Int => F11_flashkeep2_HoursTurn_l0 h (⟨s1.L, s1.at_ + 1⟩, fr) (l, 0) (fr + g) s.1 s.2) (0, 0) = some (.inl n) ∧ n = (cnt l (fr + g) : Nat) := by
    obtain ⟨e, f1, n, f2, f3⟩ := loopO_ind (step := fun s : Int × Int => F11_flashkeep2_HoursTurn_l0 h (⟨s1.L, s1.at_ + 1⟩, fr) (l, 0) (fr + g) s.1 s.2)
      (fun q => 0 ≤ q.2 ∧ q.2 ≤ l.length ∧ q.1 = (cnt (l.take q.2.toNat) (fr + g) : Nat))
      (fun e => ∃ n : Int, e = .inl n ∧ n = (cnt l (fr + g) : Nat)) (fun q => (l.length - q.2).toNat) (fun q hq => by
        obtain ⟨n, i⟩ := q
        obtain ⟨q0, q1, q2⟩ := hq
        simp only [] at q0 q1 q2
        simp only [F11_flashkeep2_HoursTurn_l0]
        by_cases hlt : i < l.length
        · obtain ⟨k, rfl⟩ := Int.eq_ofNat_of_zero_le q0
          have hk2 : k < l.length := by omega
          have hd : (decide (((k : Nat) : Int) < (l.length : Int))) = true := by simp; exact hk2
          have hm := t2.mem _ (List.getElem_mem hk2)
          have hck : cnt (l.take k) (fr + g) ≤ k := by unfold cnt; exact Nat.le_trans List.countP_le_length (by simp; omega)
          have htk : l.take (k + 1) = l.take k ++ [l[k]] := (List.take_append_getElem hk2).symm
          have hnn : ∃ m : Int, (bif (decide (l[k] ≤ fr + g)) then (bnd ((IntKind.wrap .i64 (n + ((1 : Int))))) fun u170 => some u170) else (some n)) = some m ∧ m = (cnt (l.take (k + 1)) (fr + g) : Nat) := by
            simp only [Int.ofNat_eq_natCast, Int.toNat_natCast] at q2
            rw [htk, cnt_add]
            by_cases hle : l[k] ≤ fr + g
            · refine ⟨n + 1, ?_, by rw [if_pos hle, q2]; simp⟩
              simp only [hle, decide_true, cond_true, bnd]
              rw [w64 (by omega) (by omega)]
            · refine ⟨n, by simp [hle], by rw [if_neg hle, q2]; simp⟩
          obtain ⟨m, m1, m2⟩ := hnn
          simp only [hd, cond_true, idx_at hk2, Option.bind_some]
          rw [m1]
          simp only [Option.bind_some]
          have hnext : IntKind.wrap .i64 ((k : Int) + 1) = ((k + 1 : Nat) : Int) := by rw [w64 (by omega) (by omega)]; omega
          rw [hnext]
          by_cases hgt : l[k] > fr
          · have hne := t2.turn _ (List.getElem_mem hk2) hgt
            have o1 := Open_is h hg hk l[k] (by omega) (by omega)
            have o2 := Open_is h hg hk (l[k] - 1) (by omega) (by omega)
            have hne2 : (op h (l[k] / 60000) == op h ((l[k] - 1) / 60000)) = false := by simpa using hne
            have e9 : IntKind.wrap .i64 (l[k] - 1) = l[k] - 1 := w64 (by omega) (by omega)
            simp only [hgt, decide_true, cond_true, o1, e9, o2, Option.bind_some, errs2, bne_self_eq_false, hne2, Bool.or_self, cond_false]
            exact .inr ⟨_, rfl, ⟨by (try simp only []); omega, by (try simp only []); omega, by simpa using m2⟩, by (try simp only []); omega⟩
          · simp only [hgt, decide_false, cond_false]
            exact .inr ⟨_, rfl, ⟨by (try simp only []); omega, by (try simp only []); omega, by simpa using m2⟩, by (try simp only []); omega⟩
        · refine .inl ⟨.inl n, by simp [hlt], n, rfl, ?_⟩
          have : i.toNat = l.length := by omega
          rw [q2, this, List.take_length]) (0, 0) ⟨by simp, by simp, by simp [cnt]⟩
    exact ⟨n, by rw [f1, f2], f3⟩
  obtain ⟨n, n1, n2⟩ := hlp
  have hpar := t2.par (fr + g) (by omega) (by omega)
  have hmod : ((n.tmod 2) == (1 : Int)) = (cnt l (fr + g) % 2 == 1) := by
    rw [n2, Int.tmod_eq_emod_of_nonneg (by omega), Bool.eq_iff_iff]; simp; omega
  simp only [F11_flashkeep2_HoursTurn, e1, Option.bind_some, e2, e3, e4, ht, bne_self_eq_false, cond_false, sorted_is l t2.sorted t3, Bool.not_true]
  rw [w64 (n := to - fr) (by omega) (by omega), w64 (n := to - fr - 1) (by omega) (by omega)]
  simp only [e5, Option.bind_some, bnd]
  rw [w64 (n := fr + g) (by omega) (by omega)]
  simp only [ho, Option.bind_some, n1, lret, beq_self_eq_true, hmod, hpar, Bool.and_self, cond_true, F18_flashkeep2_ready]
end Go.Proofs.YtcbepglkfglclaaDoor
