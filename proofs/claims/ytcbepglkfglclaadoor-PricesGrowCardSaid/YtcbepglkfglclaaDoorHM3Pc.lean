/-
  PricesGrow: the class of a number, and the law.
-/
import Derived.Test.YtcbepglkfglclaaDoorHM3Pb
namespace Go.Proofs.YtcbepglkfglclaaDoor
open Go Go.Abs
set_option maxRecDepth 100000
set_option maxHeartbeats 1000000

theorem wu64 {n : Int} (h1 : 0 ≤ n) (h2 : n ≤ 1000) : IntKind.wrap .u64 n = n := by unfold IntKind.wrap; simp [IntKind.signed, IntKind.bits]; omega
theorem mid_is {i j : Int} (h0 : 0 ≤ i) (h1 : i < j) (h2 : j ≤ 5) : IntKind.wrap .i64 (Int.fdiv (IntKind.wrap .u64 (IntKind.wrap .i64 (i + j))) (2 ^ 1)) = (i + j) / 2 := by
  rw [w64 (n := i + j) (by omega) (by omega), wu64 (by omega) (by omega)]
  have : Int.fdiv (i + j) (2 ^ 1) = (i + j) / 2 := by rw [Int.fdiv_eq_ediv_of_nonneg _ (by decide)]; rfl
  rw [this, w64 (by omega) (by omega)]
theorem search_is (cs : List T_api_Class) (h : Srt cs 5) (hl : cs.length ≤ 5) (k : List UInt8) (hk : k ∈ keys) :
    ∃ i b, F112_slices_BinarySearchFunc_api_Class_api_Class_string cs k (fun a0 a1 => F113_account_classOf_1 a0 a1) = some (i, b) ∧ (b = true → ∃ c, idx cs i = some c ∧ c ∈ cs ∧ c.Prefix = k) ∧ (b = false → ∀ c ∈ cs, c.Prefix ≠ k) := by
  obtain ⟨i, h1, i0, i1, i2, i3⟩ := loopO_ind (step := fun s : Int × Int => F112_slices_BinarySearchFunc_api_Class_api_Class_string_l0 cs k (fun a0 a1 => F113_account_classOf_1 a0 a1) s.1 s.2)
    (fun q => 0 ≤ q.1 ∧ q.1 ≤ q.2 ∧ q.2 ≤ cs.length ∧ (∀ m (hm : m < cs.length), (m : Int) < q.1 → cB cs[m].Prefix k < 0) ∧ (∀ m (hm : m < cs.length), q.2 ≤ (m : Int) → ¬ cB cs[m].Prefix k < 0))
    (fun e => 0 ≤ e ∧ e ≤ cs.length ∧ (∀ m (hm : m < cs.length), (m : Int) < e → cB cs[m].Prefix k < 0) ∧ (∀ m (hm : m < cs.length), e ≤ (m : Int) → ¬ cB cs[m].Prefix k < 0)) (fun q => (q.2 - q.1).toNat) (fun q hq => by
      obtain ⟨i, j⟩ := q
      obtain ⟨q0, q1, q2, q3, q4⟩ := hq
      simp only [] at q0 q1 q2 q3 q4
      simp only [F112_slices_BinarySearchFunc_api_Class_api_Class_string_l0]
      by_cases hlt : i < j
      · obtain ⟨m, hm⟩ := Int.eq_ofNat_of_zero_le (show 0 ≤ (i + j) / 2 by omega)
        have hml : m < cs.length := by omega
        have hd : (decide (i < j)) = true := by simpa using hlt
        have mono : ∀ a (ha : a < cs.length), a ≤ m → cB cs[m].Prefix k < 0 → cB cs[a].Prefix k < 0 := by
          intro a ha ham hc
          by_cases e : a = m
          · subst e; exact hc
          · obtain ⟨x, y, hxy, hy, e1, e2⟩ := h.two (a := a) (b := m) (by omega) hml
            rw [e2] at hc; rw [e1]
            exact cB_m hk hxy hy hc
        have up : ∀ a (ha : a < cs.length), m ≤ a → ¬ cB cs[m].Prefix k < 0 → ¬ cB cs[a].Prefix k < 0 := by
          intro a ha ham hc hc2
          by_cases e : m = a
          · subst e; exact hc hc2
          · obtain ⟨x, y, hxy, hy, e1, e2⟩ := h.two (a := m) (b := a) (by omega) ha
            rw [e2] at hc2; rw [e1] at hc
            exact hc (cB_m hk hxy hy hc2)
        rw [hd]
        simp only [cond_true, mid_is q0 hlt (by omega), bnd]
        rw [hm]
        have hm' : ((m : Nat) : Int) = (i + j) / 2 := by omega
        simp only [idx_at hml, Option.bind_some, cmp_is]
        by_cases hc : cB cs[m].Prefix k < 0
        · refine .inr ⟨((m : Int) + 1, j), ?_, ⟨by (try simp only []); omega, by (try simp only []); omega, q2, fun a ha hlt2 => mono a ha (by (try simp only [] at hlt2); omega) hc, q4⟩, by (try simp only []); omega⟩
          simp only [hc, decide_true, cond_true]
          rw [w64 (by omega) (by omega)]
        · refine .inr ⟨(i, (m : Int)), ?_, ⟨q0, by (try simp only []); omega, by (try simp only []); omega, q3, fun a ha hlt2 => up a ha (by (try simp only [] at hlt2); omega) hc⟩, by (try simp only []); omega⟩
          simp only [hc, decide_false, cond_false]
      · exact .inl ⟨i, by simp [hlt], q0, by omega, q3, fun m hm hle => q4 m hm (by omega)⟩) (0, (cs.length : Int)) ⟨by simp, by simp, by simp, fun m hm h => by simp at h; omega, fun m hm h => by simp at h; omega⟩
  have hnone : ∀ b : Bool, b = false → (∀ m (hm : m < cs.length), (m : Int) = i → ¬ cB cs[m].Prefix k = 0) → ∀ c ∈ cs, c.Prefix ≠ k := by
    intro _ _ hne c hc e
    obtain ⟨m, hm, rfl⟩ := List.mem_iff_getElem.1 hc
    obtain ⟨x, hx, ex⟩ := h.one hm
    have hz : cB cs[m].Prefix k = 0 := by rw [ex]; exact (cB_e hk hx).2 (by rw [← ex, e])
    rcases (by omega : (m : Int) < i ∨ (m : Int) = i ∨ i < m) with hmi | hmi | hmi
    · have := i2 m hm hmi; omega
    · exact hne m hm hmi hz
    · obtain ⟨n, rfl⟩ := Int.eq_ofNat_of_zero_le i0
      have hn : n < cs.length := by omega
      obtain ⟨a, b, hab, hb, e1, e2⟩ := h.two (a := n) (b := m) (by omega) hm
      have := i3 n hn (Int.le_refl _)
      rw [e2] at hz
      rw [e1] at this
      exact this (cB_z hk hab hb hz)
  simp only [F112_slices_BinarySearchFunc_api_Class_api_Class_string, bnd, h1, Option.bind_some]
  by_cases hi : i < cs.length
  · obtain ⟨n, rfl⟩ := Int.eq_ofNat_of_zero_le i0
    have hn : n < cs.length := by omega
    have hd : (decide (((n : Nat) : Int) < (cs.length : Int))) = true := by simp; exact hn
    refine ⟨_, _, by rw [hd, idx_at hn]; simp only [cond_true, Option.bind_some, cmp_is]; rfl, fun hb => ?_, fun hb => ?_⟩
    · obtain ⟨x, hx, ex⟩ := h.one hn
      have hz : cB cs[n].Prefix k = 0 := by simpa using hb
      rw [ex] at hz
      exact ⟨cs[n], idx_at hn, List.getElem_mem hn, by rw [ex]; exact (cB_e hk hx).1 hz⟩
    · refine hnone false rfl fun m hm he => ?_
      obtain rfl : m = n := by omega
      simpa using hb
  · have hd : (decide (i < (cs.length : Int))) = false := by simp; omega
    refine ⟨_, _, by rw [hd]; rfl, fun hb => by simp at hb, fun _ => hnone false rfl fun m hm he => by omega⟩

theorem sub_take {n : List UInt8} {k : Nat} (h : k ≤ n.length) : sub n 0 (k : Int) = some (n.take k) := by
  have h1 : (0 : Int) ≤ k := by omega
  have h2 : (k : Int) ≤ n.length := by omega
  simp [sub, h2, h1]
theorem key_of {n : List UInt8} (hn : n ∈ num4) {k : Nat} (h : k ≤ n.length) : n.take k ∈ keys := List.mem_flatMap.2 ⟨n, hn, List.mem_map.2 ⟨k, List.mem_range.2 (by omega), rfl⟩⟩
theorem class_is (t : T_api_Tariff) (h : TGood t) (n : List UInt8) (hn : n ∈ num4) :
    ∃ c b, F63_account_classOf t n = some (c, b) ∧ (b = true → c ∈ t.Classes ∧ ∀ x ∈ t.Classes, x.Prefix.length ≤ n.length → n.take x.Prefix.length = x.Prefix → x.Prefix.length ≤ c.Prefix.length) := by
  obtain ⟨h1, h2, h3, h4, h5, h6⟩ := h
  have hlen : n.length ≤ 6 := by
    simp only [num4, List.mem_cons, List.not_mem_nil, or_false] at hn
    rcases hn with rfl | rfl | rfl | rfl <;> simp
  obtain ⟨e, e1, e2⟩ := loopO_ind (step := fun s : Int × T_api_Class => F63_account_classOf_l0 t n s.1 s.2)
    (fun q => -1 ≤ q.1 ∧ q.1 ≤ n.length ∧ ∀ k : Nat, q.1 < k → k ≤ n.length → ∀ x ∈ t.Classes, x.Prefix ≠ n.take k)
    (fun e => match e with
      | .inl _ => True
      | .inr (c, b) => b = true ∧ c ∈ t.Classes ∧ ∀ x ∈ t.Classes, x.Prefix.length ≤ n.length → n.take x.Prefix.length = x.Prefix → x.Prefix.length ≤ c.Prefix.length) (fun q => (q.1 + 1).toNat) (fun q hq => by
      obtain ⟨i, c0⟩ := q
      obtain ⟨q0, q1, q2⟩ := hq
      simp only [] at q0 q1 q2
      simp only [F63_account_classOf_l0]
      by_cases hlt : i ≥ 0
      · obtain ⟨k, rfl⟩ := Int.eq_ofNat_of_zero_le hlt
        have hk : k ≤ n.length := by omega
        obtain ⟨j, b, s1, s2, s3⟩ := search_is t.Classes h3 h1 (n.take k) (key_of hn hk)
        simp only [sub_take hk, hlt, decide_true, cond_true, Option.bind_some, s1]
        cases b with
        | true =>
          obtain ⟨c, c1, c2, c3⟩ := s2 rfl
          refine .inl ⟨.inr (c, true), by simp only [cond_true, c1, Option.bind_some], rfl, c2, fun x hx hxl hxe => ?_⟩
          have hcl : c.Prefix.length = k := by rw [c3]; simp; omega
          rcases Nat.lt_or_ge k x.Prefix.length with hgt | hle
          · exact absurd hxe.symm (q2 x.Prefix.length (by omega) hxl x hx)
          · omega
        | false =>
          refine .inr ⟨((k : Int) - 1, c0), ?_, ⟨by (try simp only []); omega, by (try simp only []); omega, fun m hm hml x hx => ?_⟩, by (try simp only []); omega⟩
          · simp only [cond_false, bnd]; rw [w64 (by omega) (by omega)]
          · simp only [] at hm
            by_cases e : m = k
            · subst e; exact s3 rfl x hx
            · exact q2 m (by omega) hml x hx
      · exact .inl ⟨.inl c0, by simp [hlt], trivial⟩) ((n.length : Int), ⟨[], [], 0, 0, 0, 0⟩) ⟨by simp only []; omega, by simp, fun k hk hk2 => by simp only [] at hk; omega⟩
  simp only [F63_account_classOf, bnd, e1, lret]
  match e, e2 with
  | .inl _, _ => exact ⟨_, _, rfl, fun hb => by simp at hb⟩
  | .inr (c, b), e2 => exact ⟨_, _, rfl, fun _ => ⟨e2.2.1, e2.2.2⟩⟩

theorem num_all : num4.all (fun n => F61_number_IsNumber n == some true) = true := by kernel_rfl
theorem num_ok {n : List UInt8} (h : n ∈ num4) : F61_number_IsNumber n = some true := by simpa using List.all_eq_true.1 num_all n h

theorem law_PricesGrow (x0 : List Int) (hl : x0.length ≤ 4611686018427387904) : F3_flashkeep2_PricesGrow x0 = some true := by
  have hs0 : SOk ⟨x0, 0⟩ 0 := ⟨hl, by simp, by simp⟩
  obtain ⟨s1, t, e1, ht, hs1⟩ := tariff_is ⟨x0, 0⟩ 0 hs0 (by omega)
  obtain ⟨n, e2, hn⟩ := some_in s1 num4 _ hs1 (by omega) (by simp [num4]) (by simp [num4])
  obtain ⟨talk, e3, t1, t2⟩ := range_is ⟨s1.L, s1.at_ + 1⟩ 1 100000 _ hs1.one (by omega) (by omega) (by omega) (by omega)
  obtain ⟨more, e4, m1, m2⟩ := range_is ⟨s1.L, s1.at_ + 1 + 1⟩ 0 100000 _ hs1.one.one (by omega) (by omega) (by omega) (by omega)
  obtain ⟨c, b, ec, hb⟩ := class_is t ht n hn
  have hprice : ∀ q, 1 ≤ q → q ≤ 200000 → F16_account_Price t n q = some (if b = true then (cost c q, 0) else (0, 8)) := by
    intro q q1 q2
    simp only [F16_account_Price, check_is t ht, num_ok hn, within_ok (show (0 : Int) ≤ q by omega) (show q ≤ 86400000 by omega), ec, Option.bind_some, bne_self_eq_false, cond_false, Bool.not_true]
    cases b with
    | true =>
      have := price_is c (ht.2.1 c (hb rfl).1) q q1 q2
      simp [this]
    | false => simp
  have hclass : F17_account_ClassOf t n = some (if b = true then (c, 0) else (⟨[], [], 0, 0, 0, 0⟩, 8)) := by
    simp only [F17_account_ClassOf, check_is t ht, num_ok hn, ec, Option.bind_some, bne_self_eq_false, cond_false, Bool.not_true]
    cases b <;> simp
  simp only [num4] at e2
  simp only [F3_flashkeep2_PricesGrow, e1, Option.bind_some, e2, e3, e4, hprice talk t1 (by omega), hclass]
  rw [w64 (by omega) (by omega), hprice (talk + more) (by omega) (by omega)]
  cases b with
  | false => simp [F18_flashkeep2_ready]
  | true =>
    obtain ⟨hc, hbest⟩ := hb rfl
    have hg := cost_grows c (ht.2.1 c hc) talk (talk + more) (by omega)
    have hloop : loopO (fun s : Int => F3_flashkeep2_PricesGrow_l0 (s1, t) (⟨s1.L, s1.at_ + 1⟩, n) (c, 0) s) 0 = some (.inl ()) := by
      have := loop_for (N := t.Classes.length) (step := fun s : Int => F3_flashkeep2_PricesGrow_l0 (s1, t) (⟨s1.L, s1.at_ + 1⟩, n) (c, 0) s) (fun k => (k : Int)) (.inl ()) (fun k hk => by
        have hx := hbest _ (List.getElem_mem hk)
        have h5 := ht.1
        simp only [F3_flashkeep2_PricesGrow_l0]
        have hlt : (decide ((k : Int) < (t.Classes.length : Int))) = true := by simp; exact hk
        rw [hlt, idx_at hk]
        simp only [cond_true, Option.bind_some]
        by_cases hle : t.Classes[k].Prefix.length ≤ n.length
        · have hd : (decide (((t.Classes[k].Prefix.length : Nat) : Int) ≤ (n.length : Int))) = true := by simp; exact hle
          rw [hd, sub_take hle]
          simp only [cond_true, Option.bind_some]
          by_cases he : n.take t.Classes[k].Prefix.length = t.Classes[k].Prefix
          · have h7 := hx hle he
            have hd2 : (decide (((t.Classes[k].Prefix.length : Nat) : Int) > ((c.Prefix.length : Nat) : Int))) = false := by simp; omega
            rw [hd2, Bool.and_false, cond_false, w64 (by omega) (by omega)]; rfl
          · have hbe : (n.take t.Classes[k].Prefix.length == t.Classes[k].Prefix) = false := by simpa using he
            rw [hbe, Bool.false_and, cond_false, w64 (by omega) (by omega)]; rfl
        · have hd : (decide (((t.Classes[k].Prefix.length : Nat) : Int) ≤ (n.length : Int))) = false := by simp; omega
          rw [hd]
          simp only [cond_false, Option.bind_some, Bool.false_and]
          rw [w64 (by omega) (by omega)]; rfl) (by simp [F3_flashkeep2_PricesGrow_l0])
      simpa using this
    simp [hloop, lret, hg, F18_flashkeep2_ready]

end Go.Proofs.YtcbepglkfglclaaDoor
