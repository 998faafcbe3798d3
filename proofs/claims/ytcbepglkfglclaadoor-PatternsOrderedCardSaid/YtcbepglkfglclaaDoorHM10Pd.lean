/-
  PatternsOrdered: the law.
-/
import Derived.Test.YtcbepglkfglclaaDoorHM10Pc
namespace Go.Proofs.YtcbepglkfglclaaDoor
open Go Go.Abs
set_option maxRecDepth 100000
set_option maxHeartbeats 1000000

theorem two_is {es es' : List Nat} {t t' : Nat} (h : ∀ e ∈ es, e < 12) (ht : t < 3) (h' : ∀ e ∈ es', e < 12) (ht' : t' < 3) (n : Nat) :
    loopO (fun s : Int × Bool × Int => F84_dialplan_shared_l1 [PT es t, PT es' t'] (n : Int) s.1 s.2.1 s.2.2) (4095, decide ((n : Int) > 0), 0) = some (AL (mc es t n) (mc es' t' n), decide ((n : Int) > 0) && ed es t n && ed es' t' n) := by
  have e0 : idx [PT es t, PT es' t'] 0 = some (PT es t) := rfl
  have e1 : idx [PT es t, PT es' t'] 1 = some (PT es' t') := rfl
  have hl : ((List.length [PT es t, PT es' t'] : Nat) : Int) = 2 := rfl
  refine (loop2 (s' := (gand .u16 4095 (MC (mc es t n)), decide ((n : Int) > 0) && ed es t n, 1)) ?_).trans ((loop2 (s' := (AL (mc es t n) (mc es' t' n), decide ((n : Int) > 0) && ed es t n && ed es' t' n, 2)) ?_).trans (loop3 ?_))
  · simp only [F84_dialplan_shared_l1, hl, e0, Option.bind_some, takes_is h ht, bnd]; rfl
  · simp only [F84_dialplan_shared_l1, hl, e1, Option.bind_some, takes_is h' ht', bnd]; rfl
  · simp only [F84_dialplan_shared_l1, hl]; rfl
theorem al12 : (List.range 14).all (fun c => gand .u16 4095 (MC c) == AL c 12) = true := by kernel_rfl
theorem has12 : (List.range 12).all (fun b => has 12 b) = true := by kernel_rfl
theorem has_some : (List.range 12).all (fun c => (List.range 12).any fun b => has c b) = true := by kernel_rfl
theorem one_is {es : List Nat} {t : Nat} (h : ∀ e ∈ es, e < 12) (ht : t < 3) (n : Nat) :
    loopO (fun s : Int × Bool × Int => F84_dialplan_shared_l1 [PT es t] (n : Int) s.1 s.2.1 s.2.2) (4095, decide ((n : Int) > 0), 0) = some (AL (mc es t n) ((fun _ => 12) n), decide ((n : Int) > 0) && ed es t n && (fun _ => true) n) := by
  have e0 : idx [PT es t] 0 = some (PT es t) := rfl
  have hl : ((List.length [PT es t] : Nat) : Int) = 1 := rfl
  have ha : gand .u16 4095 (MC (mc es t n)) = AL (mc es t n) 12 := by simpa using List.all_eq_true.1 al12 _ (List.mem_range.2 (mc_lt (t := t) h n))
  refine (loop2 (s' := (AL (mc es t n) 12, decide ((n : Int) > 0) && ed es t n && true, 1)) ?_).trans (loop3 ?_)
  · simp only [F84_dialplan_shared_l1, hl, e0, Option.bind_some, takes_is h ht, bnd, ha, Bool.and_true]; rfl
  · simp only [F84_dialplan_shared_l1, hl]; rfl
theorem least_is {p : List UInt8} {es : List Nat} {t : Nat} (h : PGood p es t) : ∃ ts : List Nat, F46_dialplan_Least p = some (ts.map SG, 0) ∧ 1 ≤ ts.length ∧ ts.length ≤ 30 ∧ (∀ b ∈ ts, b < 12) ∧ mt es t ts := by
  have hr := read_is h
  obtain ⟨_, h1, h2, h3, h4⟩ := h
  obtain ⟨r, e1, e2⟩ := shared_is [PT es t] (mc es t) (fun _ => 12) (ed es t) (fun _ => true) (fun i => mc_lt h3 i) (fun _ => by omega) (fun n _ => one_is h3 h4 n)
  have h12 : ∀ b, b < 12 → has 12 b = true := fun b hb => List.all_eq_true.1 has12 b (List.mem_range.2 hb)
  have ends : ∃ m, 0 < m ∧ m ≤ 5 ∧ ed es t m = true ∧ ∀ i, i < m → ∃ b, b < 12 ∧ has (mc es t i) b = true := by
    have low : ∀ i, i < es.length → ∃ b, b < 12 ∧ has (mc es t i) b = true := fun i hi => by
      have he := h3 _ (List.getElem_mem hi)
      have hc : mc es t i = es[i] := by simp [mc, hi]
      obtain ⟨b, hb, hh⟩ := List.any_eq_true.1 (List.all_eq_true.1 has_some _ (List.mem_range.2 he))
      exact ⟨b, List.mem_range.1 hb, by rw [hc]; exact hh⟩
    rcases (by omega : t = 0 ∨ t = 1 ∨ t = 2) with rfl | rfl | rfl
    · exact ⟨es.length, by omega, by omega, by simp [ed], low⟩
    · refine ⟨es.length + 1, by omega, by omega, by simp [ed], fun i hi => ?_⟩
      by_cases hi2 : i < es.length
      · exact low i hi2
      · exact ⟨0, by omega, by have : mc es 1 i = 12 := by simp [mc, hi2]
                               rw [this]; exact h12 0 (by omega)⟩
    · exact ⟨es.length, by omega, by omega, by simp [ed], low⟩
  obtain ⟨m, m1, m2, m3, m4⟩ := ends
  rcases e2 with ⟨ts, rfl, t1, t2, t3, t4, t5, _⟩ | ⟨rfl, ⟨k, k1, k2⟩ | k2⟩
  · refine ⟨ts, ?_, t1, t2, t3, fun i hi => (t4 i hi).1, t5.1⟩
    simp only [F46_dialplan_Least, bnd, hr, Option.bind_some, bne_self_eq_false, cond_false, e1]
  · rcases Nat.lt_or_ge k m with hk | hk
    · obtain ⟨b, b1, b2⟩ := m4 k hk
      exact absurd ⟨b2, h12 b b1⟩ (k1 b b1)
    · exact absurd ⟨m3, rfl⟩ (k2 m m1 hk)
  · exact absurd ⟨m3, rfl⟩ (k2 m m1 (by omega))
theorem sg_lt : (List.range 12).all (fun b => (List.range b).all fun a => decide (SG a < SG b)) = true := by kernel_rfl
theorem lex_le : ∀ (ts bs : List Nat), ts.length = bs.length → (∀ b ∈ bs, b < 12) → (∀ i (h : i < ts.length) (h' : i < bs.length), ts[i] ≤ bs[i]) → (Op.bytesLess (ts.map SG) (bs.map SG) || ts.map SG == bs.map SG) = true
  | [], [], _, _, _ => rfl
  | [], _ :: _, h, _, _ => by simp at h
  | _ :: _, [], h, _, _ => by simp at h
  | a :: ts, b :: bs, hl, hb, h => by
    have h0 := h 0 (by simp) (by simp)
    simp only [List.getElem_cons_zero] at h0
    simp only [List.map_cons, Op.bytesLess]
    rcases Nat.lt_or_ge a b with hlt | hge
    · have := List.all_eq_true.1 (List.all_eq_true.1 sg_lt b (List.mem_range.2 (hb b (by simp)))) a (List.mem_range.2 hlt)
      simp only [this, Bool.true_or]
    · have e : a = b := by omega
      subst e
      have ih := lex_le ts bs (by simpa using hl) (fun x hx => hb x (List.mem_cons_of_mem _ hx)) (fun i h1 h2 => by have := h (i + 1) (by simpa using h1) (by simpa using h2); simpa using this)
      rw [Bool.or_eq_true] at ih ⊢
      rcases ih with ih | ih
      · exact .inl (by simp [ih])
      · exact .inr (by simpa using ih)
theorem Cmp.small {o o' : Nat → Int} {k : Int} (h : Cmp o o' k) : -1 ≤ k ∧ k ≤ 1 := by
  rcases h with ⟨rfl, _⟩ | ⟨j, _, _, rfl⟩
  · omega
  · rcases sg_cases (o j) (o' j) with ⟨a, _⟩ | ⟨a, _⟩ | ⟨a, _⟩ <;> omega
theorem Before_is {p q : List UInt8} {es es' : List Nat} {t t' : Nat} (h : PGood p es t) (h' : PGood q es' t') : ∃ k, F43_dialplan_Before p q = some (k, 0) ∧ Cmp (OR es t) (OR es' t') k := by
  obtain ⟨k, e, hk⟩ := before_is h.2.2.2.1 h.2.2.2.2 h.2.2.1 h'.2.2.2.1 h'.2.2.2.2 h'.2.2.1
  exact ⟨k, by simp only [F43_dialplan_Before, read_is h, read_is h', Option.bind_some, bne_self_eq_false, cond_false, e], hk⟩
theorem errs_of (l : List Int) (h : loopF (fun s : Int => F31_flashkeep2_errs_l0 l s) 10 0 = some (.inl ())) : F31_flashkeep2_errs l = some 0 := by
  simp only [F31_flashkeep2_errs, loopO_of h, lret]
theorem errs4 : F31_flashkeep2_errs [0, 0, 0, 0] = some 0 := errs_of _ (by kernel_rfl)
theorem errs3 : F31_flashkeep2_errs [0, 0, 0] = some 0 := errs_of _ (by kernel_rfl)
theorem errs2 : F31_flashkeep2_errs [0, 0] = some 0 := errs_of _ (by kernel_rfl)

theorem law_PatternsOrdered (x0 : List Int) (hl : x0.length ≤ 4611686018427387904) : F10_flashkeep2_PatternsOrdered x0 = some true := by
  have hs0 : SOk ⟨x0, 0⟩ 0 := ⟨hl, by simp, by simp⟩
  obtain ⟨s1, p, es, t, e1, hp, hs1⟩ := pattern_is ⟨x0, 0⟩ 0 hs0 (by omega)
  obtain ⟨s2, q, es', t', e2, hq, hs2⟩ := pattern_is s1 _ hs1 (by omega)
  obtain ⟨s3, r, es'', t'', e3, hr, hs3⟩ := pattern_is s2 _ hs2 (by omega)
  obtain ⟨s4, d, bs, e4, rfl, b1, b2, b3⟩ := dialled_is s3 _ hs3 (by omega)
  obtain ⟨k1, f1, c1⟩ := Before_is hp hq
  obtain ⟨k2, f2, c2⟩ := Before_is hq hp
  obtain ⟨k3, f3, c3⟩ := Before_is hq hr
  obtain ⟨k4, f4, c4⟩ := Before_is hp hr
  have a1 := c1.anti c2
  have a2 := c1.small
  have a3 := c2.small
  have n1 : (k1 != IntKind.wrap .i64 (0 - k2)) = false := by rw [w64 (by omega) (by omega)]; simp; omega
  have n2 : (k1 == (0 : Int)) = (p == q) := by
    rw [Bool.eq_iff_iff, beq_iff_eq, beq_iff_eq]
    refine ⟨fun h0 => ?_, fun he => ?_⟩
    · have ho : ∀ i, OR es t i = OR es' t' i := by
        rcases c1 with ⟨_, h⟩ | ⟨j, _, hj, hk⟩
        · exact h
        · rcases sg_cases (OR es t j) (OR es' t' j) with ⟨a, b⟩ | ⟨a, b⟩ | ⟨a, b⟩
          · omega
          · omega
          · exact absurd b hj
      obtain ⟨rfl, rfl⟩ := same_is hp.2.2.2.1 hp.2.2.2.2 hq.2.2.2.1 hq.2.2.2.2 ho
      rw [hp.1, hq.1]
    · subst he
      rw [f1] at f2
      have : k1 = k2 := by simpa using f2
      omega
  have n3 : (((decide (k1 < 0)) && (decide (k3 < 0))) && (decide (k4 ≥ 0))) = false := by
    by_cases h1 : k1 < 0
    · by_cases h3 : k3 < 0
      · have := c1.trans c3 c4 h1 h3
        have h4 : ¬ k4 ≥ 0 := by omega
        simp [h4]
      · simp [h3]
    · simp [h1]
  obtain ⟨rr, g1, g2⟩ := shared_is [PT es t, PT es' t'] (mc es t) (mc es' t') (ed es t) (ed es' t') (fun i => mc_lt hp.2.2.2.1 i) (fun i => mc_lt hq.2.2.2.1 i) (fun n _ => two_is hp.2.2.2.1 hp.2.2.2.2 hq.2.2.2.1 hq.2.2.2.2 n)
  obtain ⟨w1, g3, g4⟩ := matches_is hp bs b3 b1 (by omega)
  obtain ⟨w2, g5, g6⟩ := matches_is hq bs b3 b1 (by omega)
  have hsh : F44_dialplan_Shared p q = some (rr.1, rr.2, 0) := by
    simp only [F44_dialplan_Shared, bnd, read_is hp, read_is hq, Option.bind_some, bne_self_eq_false, cond_false, g1]
  obtain ⟨ls, l1, l2, l3, l4, l5⟩ := least_is hp
  obtain ⟨w3, l6, l7⟩ := matches_is hp ls l4 l2 l3
  have hw3 : w3 = true := l7.2 l5
  subst hw3
  have n4 : ((w1 && w2) && (((!rr.2) || (decide (((List.length rr.1 : Nat) : Int) > ((List.length (bs.map SG) : Nat) : Int)))) || ((((List.length rr.1 : Nat) : Int) == ((List.length (bs.map SG) : Nat) : Int)) && (!(Op.bytesLess rr.1 (bs.map SG) || rr.1 == bs.map SG))))) = false := by
    cases hw : (w1 && w2) with
    | false => rfl
    | true =>
      rw [Bool.and_eq_true] at hw
      have m1 := g4.1 hw.1
      have m2 := g6.1 hw.2
      rcases g2 with ⟨ts, rfl, t1, t2, t3, t4, t5, t6⟩ | ⟨rfl, ⟨m, k1, k2⟩ | k2⟩
      · have hle : ts.length ≤ bs.length := by
          rcases Nat.lt_or_ge bs.length ts.length with hlt | hge
          · exact absurd ⟨m1.2, m2.2⟩ (t6 bs.length (by omega) hlt)
          · exact hge
        have d1 : (decide (((List.length (ts.map SG) : Nat) : Int) > ((List.length (bs.map SG) : Nat) : Int))) = false := by simp; omega
        simp only [Bool.not_true, d1, Bool.or_self, Bool.false_or, Bool.true_and]
        by_cases hne : ts.length = bs.length
        · have := lex_le ts bs hne b3 (fun i h1 h2 => by
            rcases Nat.lt_or_ge bs[i] ts[i] with hlt | hge
            · exact absurd ⟨m1.1 i h2, m2.1 i h2⟩ ((t4 i h1).2.2 _ hlt)
            · exact hge)
          rw [this]; simp
        · have d2 : (((List.length (ts.map SG) : Nat) : Int) == ((List.length (bs.map SG) : Nat) : Int)) = false := by simp; omega
          rw [d2]; rfl
      · exfalso
        rcases Nat.lt_or_ge m bs.length with hlt | hge
        · exact k1 _ (b3 _ (List.getElem_mem hlt)) ⟨m1.1 m hlt, m2.1 m hlt⟩
        · exact k2 bs.length (by omega) hge ⟨m1.2, m2.2⟩
      · exact absurd ⟨m1.2, m2.2⟩ (k2 bs.length (by omega) (by omega))
  simp only [F10_flashkeep2_PatternsOrdered, e1, Option.bind_some, e2, e3, e4, f1, f2, f3, f4, errs4, bne_self_eq_false, n1, n2, n3, beq_self_eq_true, Bool.not_true, Bool.or_self, cond_false, hsh, g3, g5, errs3, n4]
  have fin : ((F46_dialplan_Least p).bind fun y336 => (F45_dialplan_Matches p y336.1).bind fun y339 => (bif (((y336.2 == ((0 : Int))) && (y339.2 == ((0 : Int)))) && y339.1) then ((F18_flashkeep2_ready).bind fun y364 => some y364) else (some false)).bind fun y367 => some y367) = some true := by
    simp only [l1, Option.bind_some, l6, beq_self_eq_true, Bool.and_self, cond_true, F18_flashkeep2_ready]
  rcases g2 with ⟨ts, rfl, t1, t2, t3, t4, t5, t6⟩ | ⟨rfl, _⟩
  · obtain ⟨w4, u1, u2⟩ := matches_is hp ts t3 t1 t2
    obtain ⟨w5, u3, u4⟩ := matches_is hq ts t3 t1 t2
    have hw4 : w4 = true := u2.2 ⟨fun i hi => (t4 i hi).1, t5.1⟩
    have hw5 : w5 = true := u4.2 ⟨fun i hi => (t4 i hi).2.1, t5.2⟩
    subst hw4; subst hw5
    simp only [cond_true, u1, u3, Option.bind_some, errs2, bne_self_eq_false, Bool.not_true, Bool.or_self, cond_false]
    exact fin
  · simp only [cond_false]
    exact fin

end Go.Proofs.YtcbepglkfglclaaDoor
