/-
  PacketsAreCounted: what is known of packets, and the law.
-/
import Derived.Test.YtcbepglkfglclaaDoorHM9Pb
namespace Go.Proofs.YtcbepglkfglclaaDoor
open Go Go.Abs
set_option maxRecDepth 100000
set_option maxHeartbeats 1000000

theorem mget_none {m : List (Int × Bool)} {k : Int} : mget m k = none ↔ k ∉ m.map (·.1) := by
  induction m with
  | nil => simp [mget]
  | cons p m ih =>
    obtain ⟨a, b⟩ := p
    simp only [mget, List.map_cons, List.mem_cons, not_or]
    by_cases h : a = k
    · subst h; simp
    · simp only [h, if_false, ih]
      exact ⟨fun q => ⟨fun e => h e.symm, q⟩, fun q => q.2⟩
theorem mget_mem {m : List (Int × Bool)} {k : Int} {v : Bool} (h : mget m k = some v) : (k, v) ∈ m := by
  induction m with
  | nil => simp [mget] at h
  | cons p m ih =>
    obtain ⟨a, b⟩ := p
    simp only [mget] at h
    split at h
    · rename_i e; subst e; obtain rfl := Option.some.inj h; simp
    · exact List.mem_cons_of_mem _ (ih h)
theorem mput_keys {m : List (Int × Bool)} {k : Int} {v : Bool} (h : k ∈ m.map (·.1)) : (mput m k v).map (·.1) = m.map (·.1) := by
  induction m with
  | nil => simp at h
  | cons p m ih =>
    obtain ⟨a, b⟩ := p
    simp only [mput]
    by_cases e : a = k
    · subst e; simp
    · simp only [e, if_false, List.map_cons]
      rw [ih (by rw [List.map_cons, List.mem_cons] at h; exact h.resolve_left fun q => e q.symm)]
theorem mput_mem {m : List (Int × Bool)} {k : Int} {v : Bool} {p : Int × Bool} (h : p ∈ mput m k v) : p ∈ m ∨ p = (k, v) := by
  induction m with
  | nil => simp [mput] at h; exact .inr h
  | cons q m ih =>
    obtain ⟨a, b⟩ := q
    simp only [mput] at h
    split at h
    · rcases List.mem_cons.1 h with h | h
      · exact .inr h
      · exact .inl (List.mem_cons_of_mem _ h)
    · rcases List.mem_cons.1 h with h | h
      · exact .inl (by rw [h]; simp)
      · rcases ih h with h | h
        · exact .inl (List.mem_cons_of_mem _ h)
        · exact .inr h
/-- Numbers that are different, between two: no more than there are. -/
theorem nodup_len (n : Nat) : ∀ (l : List Int) (a : Int), l.Nodup → (∀ x ∈ l, a ≤ x ∧ x < a + n) → l.length ≤ n := by
  induction n with
  | zero => intro l a _ h; cases l with
    | nil => simp
    | cons x l => have := h x (by simp); omega
  | succ n ih =>
    intro l a hn h
    by_cases hm : a + n ∈ l
    · have h1 := ih (l.erase (a + n)) a (hn.erase _) (fun x hx => by
        have hx' := (List.Nodup.mem_erase_iff hn).1 hx
        have := h x hx'.2
        have hne := hx'.1
        omega)
      rw [List.length_erase_of_mem hm] at h1
      have : 0 < l.length := List.length_pos_of_mem hm
      omega
    · have := ih l a hn (fun x hx => by
        have := h x hx
        have : x ≠ a + n := fun e => hm (e ▸ hx)
        omega)
      omega

theorem apart_is (a b : Int) (h1 : 0 ≤ a) (h2 : a ≤ 4294967295) (h3 : 0 ≤ b) (h4 : b ≤ 4294967295) : ∃ r, F80_media_apart a b = some r ∧ -2147483648 ≤ r ∧ r ≤ 2147483647 := by
  have e0 : IntKind.wrap .i64 (a - b) = a - b := w64 (by omega) (by omega)
  have e1 : (4294967295 : Int) = 2 ^ 32 - 1 := by decide
  simp only [F80_media_apart, e0, bnd]
  rw [e1, gand_mod (show 32 ≤ 62 by omega)]
  have e3 : (2 : Int) ^ 32 = 4294967296 := by decide
  rw [e3]
  by_cases h : (a - b) % 4294967296 ≥ 2147483648
  · simp only [h, decide_true, cond_true, Option.bind_some]
    rw [w64 (by omega) (by omega)]
    exact ⟨_, rfl, by omega, by omega⟩
  · simp only [h, decide_false, cond_false, Option.bind_some]
    exact ⟨_, rfl, by omega, by omega⟩

theorem losses_is {a : List T_api_Arrival} (hl : a.length ≤ 24) (h : Good a 1000) :
    ∃ x, F40_media_Losses a = some (x, 0) ∧ 0 ≤ x.Missing ∧ 0 ≤ x.Jitter ∧ (a.length : Int) - x.Twice + x.Missing = x.Due ∧ 0 ≤ x.Twice ∧ x.Twice ≤ 24 ∧ x.Missing ≤ 1000000 := by
  have hc := check_is hl h
  by_cases h0 : a.length = 0
  · have hz : (((List.length a : Nat) : Int) == 0) = true := by simp; exact List.eq_nil_of_length_eq_zero h0
    refine ⟨⟨0, 0, 0, 0, 0⟩, ?_, by simp, by simp, by simp [h0], by simp, by simp, by simp⟩
    simp only [F40_media_Losses, hc, Option.bind_some, bne_self_eq_false, cond_false, hz, cond_true]
  · have hz : (((List.length a : Nat) : Int) == 0) = false := by simp; intro e; simp [e] at h0
    obtain ⟨n, n1, n2, n3⟩ := numbers_is hl h
    have hn0 : 0 < n.length := by omega
    have b0 := n3 0 hn0 (by omega)
    have i0 : idx n (0 : Int) = some n[0] := idx_at hn0
    obtain ⟨e, f1, f2⟩ := loopO_ind (step := fun s : Int × Int × List (Int × Bool) × Int × T_api_Loss => F40_media_Losses_l0 n s.1 s.2.1 s.2.2.1 s.2.2.2.1 s.2.2.2.2)
      (fun q => 0 ≤ q.2.2.2.1 ∧ q.2.2.2.1 ≤ n.length ∧ (q.2.2.1.map (·.1)).Nodup ∧ (∀ p ∈ q.2.2.1, q.1 ≤ p.1 ∧ p.1 ≤ q.2.1 ∧ p.2 = true) ∧ (q.2.2.1.length : Int) + q.2.2.2.2.Twice = q.2.2.2.1 ∧ 0 ≤ q.2.2.2.2.Twice ∧
        (0 < q.1 ∧ q.1 ≤ q.2.1 ∧ q.2.1 ≤ 1000000) ∧ (0 ≤ q.2.2.2.2.Late ∧ q.2.2.2.2.Late ≤ q.2.2.2.1) ∧ q.2.2.2.2.Jitter = 0)
      (fun e => (e.2.2.1.map (·.1)).Nodup ∧ (∀ p ∈ e.2.2.1, e.1 ≤ p.1 ∧ p.1 ≤ e.2.1 ∧ p.2 = true) ∧ (e.2.2.1.length : Int) + e.2.2.2.Twice = n.length ∧ 0 ≤ e.2.2.2.Twice ∧ (0 < e.1 ∧ e.1 ≤ e.2.1 ∧ e.2.1 ≤ 1000000) ∧ e.2.2.2.Jitter = 0) (fun q => (n.length - q.2.2.2.1).toNat) (fun q hq => by
        obtain ⟨lo, hi, m, i, x⟩ := q
        obtain ⟨q0, q1, q2, q3, q4, q5, ⟨q6, q7, q8⟩, ⟨q9, q10⟩, q11⟩ := hq
        simp only [] at q0 q1 q2 q3 q4 q5 q6 q7 q8 q9 q10 q11
        simp only [F40_media_Losses_l0]
        by_cases hlt : i < n.length
        · obtain ⟨k, rfl⟩ := Int.eq_ofNat_of_zero_le q0
          have hk : k < n.length := by omega
          obtain ⟨_, p2, p3⟩ := n3 k hk (by omega)
          have hd : (decide (((k : Nat) : Int) < (n.length : Int))) = true := by simp; exact hk
          have hmn : 0 < gmin lo n[k] ∧ gmin lo n[k] ≤ n[k] ∧ gmin lo n[k] ≤ lo := by unfold gmin; split <;> omega
          have hmx : hi ≤ gmax hi n[k] ∧ n[k] ≤ gmax hi n[k] ∧ gmax hi n[k] ≤ 1000000 := by unfold gmax; split <;> omega
          have hmem : ∀ p ∈ mput m n[k] true, gmin lo n[k] ≤ p.1 ∧ p.1 ≤ gmax hi n[k] ∧ p.2 = true := by
            intro p hp
            rcases mput_mem hp with hp | rfl
            · obtain ⟨r1, r2, r3⟩ := q3 p hp; exact ⟨by omega, by omega, r3⟩
            · exact ⟨hmn.2.1, hmx.2.1, rfl⟩
          rw [hd, idx_at hk]
          simp only [cond_true, Option.bind_some, bnd]
          cases hg : mget m n[k] with
          | some v =>
            have hv := mget_mem hg
            have hvt : v = true := (q3 _ hv).2.2
            subst hvt
            have hkeys := mput_keys (v := true) (show n[k] ∈ m.map (·.1) from List.mem_map.2 ⟨_, hv, rfl⟩)
            have hlen : (mput m n[k] true).length = m.length := by have := congrArg List.length hkeys; simpa using this
            simp only [Option.getD_some, cond_true, Option.bind_some]
            rw [w64 (n := x.Twice + 1) (by omega) (by omega), w64 (by omega) (by omega)]
            refine .inr ⟨_, rfl, ⟨by (try simp only []); omega, by (try simp only []); omega, by rw [hkeys]; exact q2, hmem, by (try simp only []); rw [hlen]; omega, by (try simp only []); omega, ⟨hmn.1, by (try simp only []); omega, hmx.2.2⟩, ⟨q9, by (try simp only []); omega⟩, q11⟩, by (try simp only []); omega⟩
          | none =>
            have hne := mget_none.1 hg
            have hput : mput m n[k] true = m ++ [(n[k], true)] := mput_new hg
            have hnd : ((m ++ [(n[k], true)]).map (·.1)).Nodup := by
              rw [List.map_append, List.nodup_append]
              exact ⟨q2, by simp, fun a ha b hb => by simp at hb; subst hb; exact fun e => hne (e ▸ ha)⟩
            rw [hput] at hmem ⊢
            simp only [Option.getD_none, cond_false]
            by_cases hlt2 : n[k] < hi
            · simp only [hlt2, decide_true, cond_true, Option.bind_some]
              rw [w64 (n := x.Late + 1) (by omega) (by omega), w64 (by omega) (by omega)]
              refine .inr ⟨_, rfl, ⟨by (try simp only []); omega, by (try simp only []); omega, hnd, hmem, by simp; omega, q5, ⟨hmn.1, by (try simp only []); omega, hmx.2.2⟩, ⟨by (try simp only []); omega, by (try simp only []); omega⟩, q11⟩, by (try simp only []); omega⟩
            · simp only [hlt2, decide_false, cond_false, Option.bind_some]
              rw [w64 (by omega) (by omega)]
              refine .inr ⟨_, rfl, ⟨by (try simp only []); omega, by (try simp only []); omega, hnd, hmem, by simp; omega, q5, ⟨hmn.1, by (try simp only []); omega, hmx.2.2⟩, ⟨by (try simp only []); omega, by (try simp only []); omega⟩, q11⟩, by (try simp only []); omega⟩
        · exact .inl ⟨(lo, hi, m, x), by simp [hlt], q2, q3, by (try simp only []); omega, q5, ⟨q6, q7, q8⟩, q11⟩) (n[0], n[0], [], 0, ⟨0, 0, 0, 0, 0⟩)
      ⟨by simp, by simp, by simp, by simp, by simp, by simp, ⟨b0.2.1, by simp, b0.2.2⟩, ⟨by simp, by simp⟩, rfl⟩
    obtain ⟨lo, hi, m, x⟩ := e
    obtain ⟨g1, g2, g3, g4, ⟨g5, g6, g7⟩, g8⟩ := f2
    simp only [] at g1 g2 g3 g4 g5 g6 g7 g8
    have hcount : m.length ≤ (hi - lo + 1).toNat := by
      have := nodup_len (hi - lo + 1).toNat (m.map (·.1)) lo g1 (fun y hy => by
        obtain ⟨p, hp, rfl⟩ := List.mem_map.1 hy
        obtain ⟨r1, r2, _⟩ := g2 p hp
        omega)
      simpa using this
    have d1 : IntKind.wrap .i64 (IntKind.wrap .i64 (hi - lo) + 1) = hi - lo + 1 := by rw [w64 (n := hi - lo) (by omega) (by omega), w64 (by omega) (by omega)]
    have d2 : IntKind.wrap .i64 (hi - lo + 1 - (m.length : Int)) = hi - lo + 1 - m.length := w64 (by omega) (by omega)
    obtain ⟨e, j1, j2⟩ := loopO_ind (step := fun s : Int × T_api_Loss => F40_media_Losses_l1 a s.1 s.2)
      (fun q => 1 ≤ q.1 ∧ q.1 ≤ a.length ∧ q.2.Due = hi - lo + 1 ∧ q.2.Missing = hi - lo + 1 - m.length ∧ q.2.Twice = x.Twice ∧ 0 ≤ q.2.Jitter ∧ q.2.Jitter ≤ 300000000 * q.1)
      (fun e => e.Due = hi - lo + 1 ∧ e.Missing = hi - lo + 1 - m.length ∧ e.Twice = x.Twice ∧ 0 ≤ e.Jitter) (fun q => (a.length - q.1).toNat) (fun q hq => by
        obtain ⟨i, x1⟩ := q
        obtain ⟨q0, q1, q2, q3, q4, q5, q6⟩ := hq
        simp only [] at q0 q1 q2 q3 q4 q5 q6
        simp only [F40_media_Losses_l1]
        by_cases hlt : i < a.length
        · obtain ⟨k, rfl⟩ := Int.eq_ofNat_of_zero_le (show 0 ≤ i by omega)
          have hk : k < a.length := by omega
          have hk1 : k - 1 < a.length := by omega
          have hd : (decide (((k : Nat) : Int) < (a.length : Int))) = true := by simp; exact hk
          have e : IntKind.wrap .i64 ((k : Int) - 1) = ((k - 1 : Nat) : Int) := by rw [w64 (by omega) (by omega)]; omega
          obtain ⟨⟨_, _, _, t1, t2, _⟩, u1, u2⟩ := h.1 _ (List.getElem_mem hk)
          obtain ⟨⟨_, _, _, t3, t4, _⟩, u3, u4⟩ := h.1 _ (List.getElem_mem hk1)
          obtain ⟨r, r1, r2, r3⟩ := apart_is _ _ t1 t2 t3 t4
          rw [hd, e, idx_at hk, idx_at hk1]
          simp only [cond_true, Option.bind_some, r1, bnd]
          have hdv : r.fdiv (2 ^ 3) = r / 8 := by rw [Int.fdiv_eq_ediv_of_nonneg _ (by decide)]; rfl
          rw [hdv, w64 (n := a[k].At - a[k - 1].At) (by omega) (by omega), w64 (n := a[k].At - a[k - 1].At - r / 8) (by omega) (by omega)]
          generalize hD : a[k].At - a[k - 1].At - r / 8 = D
          have hDb : -290000000 ≤ D ∧ D ≤ 290000000 := by omega
          rw [w64 (n := 0 - D) (by omega) (by omega), w64 (n := x1.Jitter + 8) (by omega) (by omega)]
          have hjv : (x1.Jitter + 8).fdiv (2 ^ 4) = (x1.Jitter + 8) / 16 := by rw [Int.fdiv_eq_ediv_of_nonneg _ (by decide)]; rfl
          rw [hjv]
          have hmx : 0 ≤ gmax D (0 - D) ∧ gmax D (0 - D) ≤ 290000000 := by unfold gmax; split <;> omega
          rw [w64 (n := gmax D (0 - D) - (x1.Jitter + 8) / 16) (by omega) (by omega), w64 (n := x1.Jitter + _) (by omega) (by omega), w64 (n := (k : Int) + 1) (by omega) (by omega)]
          exact .inr ⟨_, rfl, ⟨by (try simp only []); omega, by (try simp only []); omega, q2, q3, q4, by (try simp only []); omega, by (try simp only []); omega⟩, by (try simp only []); omega⟩
        · exact .inl ⟨x1, by simp [hlt], q2, q3, q4, q5⟩) (1, ⟨hi - lo + 1, hi - lo + 1 - m.length, x.Twice, x.Late, x.Jitter⟩) ⟨by simp, by simp; omega, rfl, rfl, rfl, by simp [g8], by simp [g8]⟩
    refine ⟨e, ?_, by rw [j2.2.1]; omega, j2.2.2.2, by rw [j2.1, j2.2.1, j2.2.2.1]; omega, by rw [j2.2.2.1]; exact g4, by rw [j2.2.2.1]; omega, by rw [j2.2.1]; omega⟩
    simp only [F40_media_Losses, hc, Option.bind_some, bne_self_eq_false, cond_false, hz, n1, i0, f1, d1, d2, j1]

theorem law_PacketsAreCounted (x0 : List Int) (hl : x0.length ≤ 4611686018427387904) : F9_flashkeep2_PacketsAreCounted x0 = some true := by
  have hs0 : SOk ⟨x0, 0⟩ 0 := ⟨hl, by simp, by simp⟩
  obtain ⟨s1, a, e1, ha, hg⟩ := arrivals_is ⟨x0, 0⟩ hs0
  obtain ⟨n, n1, n2, n3⟩ := numbers_is ha hg
  obtain ⟨x, l1, l2, l3, l4, l5, l6, l7⟩ := losses_is ha hg
  have hnum : F39_media_Numbers a = some (n, 0) := by simp only [F39_media_Numbers, check_is ha hg, Option.bind_some, bne_self_eq_false, cond_false, n1]
  have c1 : (((List.length n : Nat) : Int) != ((List.length a : Nat) : Int)) = false := by rw [n2]; simp
  have c2 : (decide (x.Missing < 0)) = false := by simp; omega
  have c3 : (decide (x.Jitter < 0)) = false := by simp; omega
  have c4 : (IntKind.wrap .i64 (IntKind.wrap .i64 ((a.length : Int) - x.Twice) + x.Missing) != x.Due) = false := by
    rw [w64 (n := (a.length : Int) - x.Twice) (by omega) (by omega), w64 (by omega) (by omega)]; simp; omega
  have hlp : loopO (fun s : Int => F9_flashkeep2_PacketsAreCounted_l0 (s1, a) (n, 0) s) 0 = some (.inl ()) := by
    have := loop_for (N := n.length) (step := fun s : Int => F9_flashkeep2_PacketsAreCounted_l0 (s1, a) (n, 0) s) (fun k => (k : Int)) (.inl ()) (fun k hk => by
      have hka : k < a.length := by omega
      obtain ⟨p1, p2, p3⟩ := n3 k hk hka
      have hd : (decide (((k : Nat) : Int) < (n.length : Int))) = true := by simp; exact hk
      simp only [F9_flashkeep2_PacketsAreCounted_l0]
      rw [hd, idx_at hk, idx_at hka]
      have t1 : n[k].tmod 65536 = a[k].Packet.Seq := by rw [Int.tmod_eq_emod_of_nonneg (by omega)]; exact p1
      have t2 : (decide (n[k] < 0)) = false := by simp; omega
      simp only [cond_true, Option.bind_some, t1, t2, bne_self_eq_false, Bool.or_false, cond_false]
      rw [w64 (by omega) (by omega)]; rfl) (by simp [F9_flashkeep2_PacketsAreCounted_l0])
    simpa using this
  simp only [F9_flashkeep2_PacketsAreCounted, e1, Option.bind_some, hnum, l1, bne_self_eq_false, c1, c2, c3, c4, Bool.or_false, cond_false, hlp, lret, F18_flashkeep2_ready]

end Go.Proofs.YtcbepglkfglclaaDoor
