/-
  PatternsOrdered: what patterns match, and what they share.
-/
import Derived.Test.YtcbepglkfglclaaDoorHM10Pb
namespace Go.Proofs.YtcbepglkfglclaaDoor
open Go Go.Abs
set_option maxRecDepth 100000
set_option maxHeartbeats 1000000

/-- What a pattern takes at a place, and whether it may end there. -/
def mcs : List Int := mks ++ [4095, 0]
def MC (c : Nat) : Int := mcs.getD c 0
def mc (es : List Nat) (t : Nat) (i : Nat) : Nat := if i < es.length then es.getD i 0 else if t = 0 then 13 else 12
def ed (es : List Nat) (t : Nat) (i : Nat) : Bool := if i < es.length then false else if t = 0 then i == es.length else if t = 1 then decide (es.length < i) else true
theorem mc_lt {es : List Nat} {t : Nat} (h : ∀ e ∈ es, e < 12) (i : Nat) : mc es t i < 14 := by
  unfold mc
  split
  · rename_i hi
    have := h _ (List.getElem_mem hi)
    simp [hi]; omega
  · split <;> omega
theorem takes_is {es : List Nat} {t : Nat} (h : ∀ e ∈ es, e < 12) (ht : t < 3) (i : Nat) : F130_dialplan_pattern_takes (PT es t) (i : Int) = some (MC (mc es t i), ed es t i) := by
  simp only [F130_dialplan_pattern_takes, bnd, sets_len]
  by_cases hi : i < es.length
  · have hd : (decide (((i : Nat) : Int) < (es.length : Int))) = true := by simp; exact hi
    have hm : i < (es.map MK).length := by simpa using hi
    have he := h _ (List.getElem_mem hi)
    have hidx : idx (PT es t).sets (i : Int) = some (MK es[i]) := by
      show idx (es.map MK) (i : Int) = _
      rw [idx_at hm]; simp
    have hc : mc es t i = es[i] := by simp [mc, hi]
    have hmk : MC es[i] = MK es[i] := by
      rcases (by omega : es[i] = 0 ∨ es[i] = 1 ∨ es[i] = 2 ∨ es[i] = 3 ∨ es[i] = 4 ∨ es[i] = 5 ∨ es[i] = 6 ∨ es[i] = 7 ∨ es[i] = 8 ∨ es[i] = 9 ∨ es[i] = 10 ∨ es[i] = 11) with q | q | q | q | q | q | q | q | q | q | q | q <;> rw [q] <;> rfl
    simp only [hd, cond_true, hidx, Option.bind_some, hc, hmk, ed, hi, if_true]
  · have hd : (decide (((i : Nat) : Int) < (es.length : Int))) = false := by simp; omega
    have hgt : (decide (((i : Nat) : Int) > (es.length : Int))) = decide (es.length < i) := by simp
    have heq : (((i : Nat) : Int) == (es.length : Int)) = (i == es.length) := by
      rw [Bool.eq_iff_iff]; simp only [beq_iff_eq]; omega
    simp only [hd, cond_false, hgt, heq, mc, ed, hi, if_false]
    rcases (by omega : t = 0 ∨ t = 1 ∨ t = 2) with rfl | rfl | rfl <;> rfl
/-- Is a sign in a set? -/
def has (c b : Nat) : Bool := (MC c / 2 ^ b) % 2 == 1
theorem only_all : (List.range 12).all (fun b => F133_dialplan_only ((SG b).toNat : Int) == some (2 ^ b)) = true := by kernel_rfl
theorem only_is {b : Nat} (hb : b < 12) : F133_dialplan_only ((SG b).toNat : Int) = some (2 ^ b) := by simpa using List.all_eq_true.1 only_all b (List.mem_range.2 hb)
theorem has_all : (List.range 14).all (fun c => (List.range 12).all fun b => (gand .u16 (MC c) (2 ^ b) == 0) == !(has c b)) = true := by kernel_rfl
theorem has_is {c b : Nat} (hc : c < 14) (hb : b < 12) : (gand .u16 (MC c) (2 ^ b) == 0) = !(has c b) := by
  simpa using List.all_eq_true.1 (List.all_eq_true.1 has_all c (List.mem_range.2 hc)) b (List.mem_range.2 hb)
/-- Does a pattern match signs? -/
def mt (es : List Nat) (t : Nat) (bs : List Nat) : Prop := (∀ i (h : i < bs.length), has (mc es t i) bs[i] = true) ∧ ed es t bs.length = true
theorem begins_is {es : List Nat} {t : Nat} (h : ∀ e ∈ es, e < 12) (ht : t < 3) (bs : List Nat) (hb : ∀ b ∈ bs, b < 12) (hl : bs.length ≤ 100) :
    ∃ s w, F86_dialplan_pattern_begins (PT es t) (bs.map SG) = some (s, w) ∧ (w = true ↔ mt es t bs) := by
  obtain ⟨e, h1, h2⟩ := loopO_ind (step := fun s : Int => F86_dialplan_pattern_begins_l0 (PT es t) (bs.map SG) s)
    (fun q => 0 ≤ q ∧ q ≤ bs.length ∧ ∀ i (h : i < bs.length), (i : Int) < q → has (mc es t i) bs[i] = true)
    (fun e => match e with
      | .inl _ => ∀ i (h : i < bs.length), has (mc es t i) bs[i] = true
      | .inr r => r = (false, false) ∧ ¬ mt es t bs) (fun q => (bs.length - q).toNat) (fun q hq => by
      obtain ⟨q0, q1, q2⟩ := hq
      have hln : ((List.length (bs.map SG) : Nat) : Int) = (bs.length : Int) := by simp
      simp only [F86_dialplan_pattern_begins_l0, hln]
      by_cases hlt : q < bs.length
      · obtain ⟨i, rfl⟩ := Int.eq_ofNat_of_zero_le q0
        have hi : i < bs.length := by omega
        have hm : i < (bs.map SG).length := by simpa using hi
        have hd : (decide (((i : Nat) : Int) < (bs.length : Int))) = true := by simp; exact hi
        have hbi := hb _ (List.getElem_mem hi)
        have hid : idx (bs.map SG) (i : Int) = some (SG bs[i]) := by rw [idx_at hm]; simp
        simp only [hd, cond_true, takes_is h ht, hid, Option.bind_some, only_is hbi, has_is (mc_lt (t := t) h i) hbi]
        cases hh : has (mc es t i) bs[i] with
        | true =>
          simp only [Bool.not_true, cond_false]
          rw [w64 (by omega) (by omega)]
          refine .inr ⟨_, rfl, ⟨by omega, by omega, fun j hj hlt2 => ?_⟩, by omega⟩
          by_cases e : j = i
          · subst e; exact hh
          · exact q2 j hj (by omega)
        | false =>
          simp only [Bool.not_false, cond_true]
          exact .inl ⟨_, rfl, rfl, fun hmt => by have := hmt.1 i hi; rw [hh] at this; simp at this⟩
      · exact .inl ⟨.inl (), by simp [hlt], fun i hi => q2 i hi (by omega)⟩) 0 ⟨by omega, by omega, fun i hi hlt => by omega⟩
  have hln : ((List.length (bs.map SG) : Nat) : Int) = (bs.length : Int) := by simp
  simp only [F86_dialplan_pattern_begins, h1, lret]
  match e, h2 with
  | .inl _, h2 =>
    simp only [hln, takes_is h ht, Option.bind_some, bnd]
    exact ⟨_, _, rfl, fun hw => ⟨h2, hw⟩, fun hw => hw.2⟩
  | .inr r, h2 =>
    obtain ⟨rfl, h3⟩ := h2
    exact ⟨_, _, rfl, fun hw => by simp at hw, fun hw => absurd hw h3⟩
theorem sgs_trim (bs : List Nat) (hb : ∀ b ∈ bs, b < 12) : Lib.trimS (bs.map SG) [35, 42, 48, 49, 50, 51, 52, 53, 54, 55, 56, 57] = [] := by
  have key : ∀ l : List UInt8, (∀ x ∈ l, ([35, 42, 48, 49, 50, 51, 52, 53, 54, 55, 56, 57] : List UInt8).contains x = true) → l.dropWhile (([35, 42, 48, 49, 50, 51, 52, 53, 54, 55, 56, 57] : List UInt8).contains ·) = [] := by
    intro l
    induction l with
    | nil => intro _; rfl
    | cons a l ih => intro h; rw [List.dropWhile_cons_of_pos (h a (by simp))]; exact ih fun x hx => h x (List.mem_cons_of_mem _ hx)
  have hc : ∀ b, b < 12 → ([35, 42, 48, 49, 50, 51, 52, 53, 54, 55, 56, 57] : List UInt8).contains (SG b) = true := by
    intro b hb
    rcases (by omega : b = 0 ∨ b = 1 ∨ b = 2 ∨ b = 3 ∨ b = 4 ∨ b = 5 ∨ b = 6 ∨ b = 7 ∨ b = 8 ∨ b = 9 ∨ b = 10 ∨ b = 11) with rfl | rfl | rfl | rfl | rfl | rfl | rfl | rfl | rfl | rfl | rfl | rfl <;> decide
  have h1 : Lib.trimRightS (bs.map SG) [35, 42, 48, 49, 50, 51, 52, 53, 54, 55, 56, 57] = [] := by
    unfold Lib.trimRightS
    rw [key _ fun x hx => ?_]
    · rfl
    · rw [List.mem_reverse, List.mem_map] at hx
      obtain ⟨b, hb1, rfl⟩ := hx
      exact hc b (hb b hb1)
  unfold Lib.trimS
  rw [h1]; rfl
theorem isDialled_is (bs : List Nat) (hb : ∀ b ∈ bs, b < 12) (h1 : 1 ≤ bs.length) (h2 : bs.length ≤ 30) : F85_dialplan_isDialled (bs.map SG) 1 = some true := by
  have hln : ((List.length (bs.map SG) : Nat) : Int) = (bs.length : Int) := by simp
  have c1 : (decide ((bs.length : Int) ≥ 1)) = true := by simp; omega
  have c2 : (decide ((bs.length : Int) ≤ 30)) = true := by simp; omega
  have hok : trimOk (bs.map SG) [35, 42, 48, 49, 50, 51, 52, 53, 54, 55, 56, 57] = true := by
    have : (bs.map SG).length ≤ 9223372036854775807 := by simp; omega
    simp only [trimOk, decide_eq_true this, Bool.true_and]; rfl
  simp only [F85_dialplan_isDialled, hln, c1, c2, Bool.and_self, cond_true, F132_trim, hok, if_true, Option.bind_some, sgs_trim bs hb, beq_self_eq_true]
theorem matches_is {p : List UInt8} {es : List Nat} {t : Nat} (h : PGood p es t) (bs : List Nat) (hb : ∀ b ∈ bs, b < 12) (h1 : 1 ≤ bs.length) (h2 : bs.length ≤ 30) :
    ∃ w, F45_dialplan_Matches p (bs.map SG) = some (w, 0) ∧ (w = true ↔ mt es t bs) := by
  obtain ⟨s, w, e1, e2⟩ := begins_is (es := es) (t := t) h.2.2.2.1 h.2.2.2.2 bs hb (by omega)
  refine ⟨w, ?_, e2⟩
  simp only [F45_dialplan_Matches, read_is h, Option.bind_some, bne_self_eq_false, cond_false, isDialled_is bs hb h1 h2, Bool.not_true, e1]

/-- The signs that two sets share: the least one. -/
def AL (a b : Nat) : Int := gand .u16 (gand .u16 4095 (MC a)) (MC b)
theorem al_all : (List.range 14).all (fun a => (List.range 14).all fun b => if AL a b == 0 then (List.range 12).all fun i => !(has a i && has b i) else
    (List.range 12).any fun i => has a i && has b i && ((List.range i).all fun j => !(has a j && has b j)) && F131_math_bits_TrailingZeros16 (AL a b) == some (i : Int)) = true := by kernel_rfl
theorem al_is {a b : Nat} (ha : a < 14) (hb : b < 14) : ((AL a b == 0) = true ∧ ∀ i, i < 12 → ¬ (has a i = true ∧ has b i = true)) ∨
    ((AL a b == 0) = false ∧ ∃ i, i < 12 ∧ has a i = true ∧ has b i = true ∧ (∀ j, j < i → ¬ (has a j = true ∧ has b j = true)) ∧ F131_math_bits_TrailingZeros16 (AL a b) = some (i : Int)) := by
  have := List.all_eq_true.1 (List.all_eq_true.1 al_all a (List.mem_range.2 ha)) b (List.mem_range.2 hb)
  cases hz : (AL a b == 0) with
  | true =>
    rw [hz] at this
    simp only [if_true] at this
    refine .inl ⟨rfl, fun i hi hh => ?_⟩
    have := List.all_eq_true.1 this i (List.mem_range.2 hi)
    rw [hh.1, hh.2] at this; simp at this
  | false =>
    rw [hz] at this
    simp only [Bool.false_eq_true, if_false] at this
    obtain ⟨i, hi, h⟩ := List.any_eq_true.1 this
    simp only [Bool.and_eq_true, List.all_eq_true, beq_iff_eq] at h
    obtain ⟨⟨⟨h1, h2⟩, h3⟩, h4⟩ := h
    refine .inr ⟨rfl, i, List.mem_range.1 hi, h1, h2, fun j hj hh => ?_, h4⟩
    have := h3 j (List.mem_range.2 hj)
    rw [hh.1, hh.2] at this; simp at this
/-- What patterns share: the least of the shortest, or nothing. -/
def Shr (ca cb : Nat → Nat) (ea eb : Nat → Bool) (r : List UInt8 × Bool) : Prop :=
  (∃ ts : List Nat, r = (ts.map SG, true) ∧ 1 ≤ ts.length ∧ ts.length ≤ 30 ∧ (∀ b ∈ ts, b < 12) ∧ (∀ i (h : i < ts.length), has (ca i) ts[i] = true ∧ has (cb i) ts[i] = true ∧ ∀ j, j < ts[i] → ¬ (has (ca i) j = true ∧ has (cb i) j = true)) ∧
    (ea ts.length = true ∧ eb ts.length = true) ∧ ∀ n, 0 < n → n < ts.length → ¬ (ea n = true ∧ eb n = true)) ∨
  (r = ([], false) ∧ ((∃ m, (∀ i, i < 12 → ¬ (has (ca m) i = true ∧ has (cb m) i = true)) ∧ ∀ n, 0 < n → n ≤ m → ¬ (ea n = true ∧ eb n = true)) ∨ ∀ n, 0 < n → n ≤ 30 → ¬ (ea n = true ∧ eb n = true)))
theorem shared_is (ps : List T_dialplan_pattern) (ca cb : Nat → Nat) (ea eb : Nat → Bool) (hca : ∀ i, ca i < 14) (hcb : ∀ i, cb i < 14)
    (hin : ∀ n : Nat, n ≤ 30 → loopO (fun s : Int × Bool × Int => F84_dialplan_shared_l1 ps (n : Int) s.1 s.2.1 s.2.2) (4095, decide ((n : Int) > 0), 0) = some (AL (ca n) (cb n), decide ((n : Int) > 0) && ea n && eb n)) :
    ∃ r, F84_dialplan_shared ps = some r ∧ Shr ca cb ea eb r := by
  obtain ⟨e, h1, h2⟩ := loopO_ind (step := fun s : List Int × Int => F84_dialplan_shared_l0 ps s.1 s.2)
    (fun q => 0 ≤ q.2 ∧ q.2 ≤ 31 ∧ (∃ ts : List Nat, q.1 = ts.map (fun b => ((SG b).toNat : Int)) ∧ (ts.length : Int) = q.2 ∧ (∀ b ∈ ts, b < 12) ∧ (∀ i (h : i < ts.length), has (ca i) ts[i] = true ∧ has (cb i) ts[i] = true ∧ ∀ j, j < ts[i] → ¬ (has (ca i) j = true ∧ has (cb i) j = true)) ∧
      ∀ n, 0 < n → n < ts.length → ¬ (ea n = true ∧ eb n = true)))
    (fun e => match e with
      | .inl _ => Shr ca cb ea eb ([], false)
      | .inr r => Shr ca cb ea eb r) (fun q => (31 - q.2).toNat) (fun q hq => by
      obtain ⟨l, n0⟩ := q
      obtain ⟨q0, q1, ts, rfl, q2, q3, q4, q5⟩ := hq
      simp only [] at q0 q1 q2
      obtain ⟨n, rfl⟩ := Int.eq_ofNat_of_zero_le q0
      have hn : ts.length = n := by omega
      simp only [F84_dialplan_shared_l0]
      by_cases hlt : (n : Int) ≤ 30
      · have hd : (decide (((n : Nat) : Int) ≤ 30)) = true := by simpa using hlt
        simp only [hd, cond_true, bnd, hin n (by omega), Option.bind_some]
        cases he : (decide ((n : Int) > 0) && ea n && eb n) with
        | true =>
          simp only [Bool.and_eq_true, decide_eq_true_eq] at he
          refine .inl ⟨.inr (ts.map SG, true), ?_, .inl ⟨ts, rfl, by omega, by omega, q3, q4, ⟨by rw [hn]; exact he.1.2, by rw [hn]; exact he.2⟩, q5⟩⟩
          have : bytesStr (ts.map fun b => ((SG b).toNat : Int)) = ts.map SG := by
            unfold bytesStr
            rw [List.map_map]
            apply List.map_congr_left
            intro b _
            simp
          simp only [cond_true, this]
        | false =>
          simp only [cond_false]
          have hne : ∀ m, 0 < m → m < n + 1 → ¬ (ea m = true ∧ eb m = true) := by
            intro m hm hm2 hh
            by_cases e : m = n
            · subst e
              rw [hh.1, hh.2] at he
              simp at he; omega
            · exact q5 m hm (by omega) hh
          rcases al_is (hca n) (hcb n) with ⟨z1, z2⟩ | ⟨z1, i, z2, z3, z4, z5, z6⟩
          · simp only [z1, cond_true]
            exact .inl ⟨_, rfl, .inr ⟨rfl, .inl ⟨n, z2, fun m hm hm2 => hne m hm (by omega)⟩⟩⟩
          · have hidx : idx ([35, 42, 48, 49, 50, 51, 52, 53, 54, 55, 56, 57] : List UInt8) (i : Int) = some (SG i) := by
              rcases (by omega : i = 0 ∨ i = 1 ∨ i = 2 ∨ i = 3 ∨ i = 4 ∨ i = 5 ∨ i = 6 ∨ i = 7 ∨ i = 8 ∨ i = 9 ∨ i = 10 ∨ i = 11) with rfl | rfl | rfl | rfl | rfl | rfl | rfl | rfl | rfl | rfl | rfl | rfl <;> rfl
            simp only [z1, cond_false, z6, hidx, Option.bind_some]
            rw [app_of (by simp; omega) (by simp; omega), w64 (by omega) (by omega)]
            simp only [Option.bind_some]
            refine .inr ⟨(((ts ++ [i]).map fun b => ((SG b).toNat : Int)), (n : Int) + 1), by simp, ⟨by (try simp only []); omega, by (try simp only []); omega, ts ++ [i], rfl, by simp; omega, fun b hb => ?_, fun k hk => ?_, fun m hm hm2 => hne m hm (by simp at hm2; omega)⟩, by (try simp only []); omega⟩
            · rcases List.mem_append.1 hb with hb | hb
              · exact q3 b hb
              · simp at hb; omega
            · simp at hk
              by_cases e : k < ts.length
              · simp only [List.getElem_append_left e]; exact q4 k e
              · have e2 : k = n := by omega
                subst e2
                have : (ts ++ [i])[ts.length]'(by simp) = i := by rw [List.getElem_append_right (Nat.le_refl _)]; simp
                simp only [← hn, this] at z3 z4 z5 ⊢
                exact ⟨z3, z4, z5⟩
      · refine .inl ⟨.inl (), by simp [hlt], .inr ⟨rfl, .inr fun m hm hm2 => q5 m hm (by omega)⟩⟩) ([], 0) ⟨by simp, by simp, [], rfl, by simp, by simp, fun i h => by simp at h, fun n h1 h2 => by simp at h2⟩
  simp only [F84_dialplan_shared, bnd, h1, lret]
  match e, h2 with
  | .inl _, h2 => exact ⟨_, rfl, h2⟩
  | .inr r, h2 => exact ⟨r, rfl, h2⟩

end Go.Proofs.YtcbepglkfglclaaDoor
