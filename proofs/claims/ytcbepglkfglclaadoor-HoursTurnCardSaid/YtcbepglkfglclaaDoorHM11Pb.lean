/-
  HoursTurn: hours are right; when they are open.
-/
import Derived.Test.YtcbepglkfglclaaDoorHM11P
import Derived.KernelRfl
namespace Go.Proofs.YtcbepglkfglclaaDoor
open Go Go.Abs
set_option maxRecDepth 100000
set_option maxHeartbeats 1000000

theorem floor_is (x b : Int) (hb : 1 ≤ b) (h1 : -1000000000000 ≤ x) (h2 : x ≤ 1000000000000) (h3 : b ≤ 1000000000) : F136_dialplan_floor x b = some (x / b) := by
  have hb0 : ¬ b = 0 := by omega
  have hq := Int.mul_tdiv_add_tmod x b
  have he := Int.mul_ediv_add_emod x b
  have hm1 : 0 ≤ x % b := Int.emod_nonneg _ (by omega)
  have hm2 : x % b < b := Int.emod_lt_of_pos _ (by omega)
  have hlt : x.tmod b < b := Int.tmod_lt_of_pos _ (by omega)
  have hgt : -b < x.tmod b := by
    have := Int.tmod_lt_of_pos (-x) (b := b) (by omega)
    rw [Int.neg_tmod] at this; omega
  have hbnd : ∀ q r : Int, b * q + r = x → -b < r → r < b → -1000000000001 ≤ q ∧ q ≤ 1000000000001 := by
    intro q r e r1 r2
    constructor
    · rcases (by omega : q < -1000000000001 ∨ -1000000000001 ≤ q) with hlt | hge
      · have : b * q ≤ b * (-1000000000002) := Int.mul_le_mul_of_nonneg_left (by omega) (by omega)
        have h5 : b * (-1000000000002) ≤ -1000000000002 * 1 - (b - 1) * 1000000000002 := by omega
        omega
      · exact hge
    · rcases (by omega : 1000000000001 < q ∨ q ≤ 1000000000001) with hlt | hge
      · have : b * 1000000000002 ≤ b * q := Int.mul_le_mul_of_nonneg_left (by omega) (by omega)
        omega
      · exact hge
  have hb1 := hbnd _ _ hq hgt hlt
  simp only [F136_dialplan_floor, gquo, grem, hb0, if_false, Option.bind_some]
  rw [w64 (n := x.tdiv b) (by omega) (by omega)]
  by_cases hneg : x.tmod b < 0
  · simp only [hneg, decide_true, cond_true, bnd, Option.bind_some]
    rw [w64 (n := x.tdiv b - 1) (by omega) (by omega)]
    congr 1
    have e : x = (x.tmod b + b) + b * (x.tdiv b - 1) := by rw [Int.mul_sub]; omega
    have : x / b = x.tdiv b - 1 := by
      conv => lhs; rw [e]
      rw [Int.add_mul_ediv_left _ _ hb0, Int.ediv_eq_zero_of_lt (by omega) (by omega)]; omega
    exact this.symm
  · simp only [hneg, decide_false, cond_false, Option.bind_some]
    congr 1
    have e : x = x.tmod b + b * x.tdiv b := by omega
    have : x / b = x.tdiv b := by
      conv => lhs; rw [e]
      rw [Int.add_mul_ediv_left _ _ hb0, Int.ediv_eq_zero_of_lt (by omega) hlt]; omega
    exact this.symm

/-- Are hours open on a day, in a minute of it? -/
noncomputable def opD (h : T_api_Hours) (day minute : Int) : Option Bool :=
  lret (loopO (fun s : Int => F89_dialplan_isOpen_l0 h day minute s) ((0 : Int))) (fun _ => (F136_dialplan_floor day ((7 : Int))).bind fun y78 => lret (loopO (fun s : Int => F89_dialplan_isOpen_l1 h day minute y78 s) ((0 : Int))) (fun _ => some false) (fun r => some r)) (fun r => some r)
theorem opD_is (h : T_api_Hours) (hg : HGood h) (day minute : Int) (h1 : -100000 ≤ day) (h2 : day ≤ 100000) : ∃ b, opD h day minute = some b := by
  obtain ⟨_, _, r1, _, r2, _, _⟩ := hg
  obtain ⟨e, e1, _⟩ := loopO_ind (step := fun s : Int => F89_dialplan_isOpen_l0 h day minute s) (fun q => 0 ≤ q ∧ q ≤ h.Holidays.length) (fun _ => True) (fun q => (h.Holidays.length - q).toNat) (fun q hq => by
    obtain ⟨q0, q1⟩ := hq
    simp only [F89_dialplan_isOpen_l0]
    by_cases hlt : q < h.Holidays.length
    · obtain ⟨k, rfl⟩ := Int.eq_ofNat_of_zero_le q0
      have hk : k < h.Holidays.length := by omega
      have hd : (decide (((k : Nat) : Int) < (h.Holidays.length : Int))) = true := by simp; exact hk
      rw [hd, idx_at hk]
      simp only [cond_true, Option.bind_some]
      cases hc : (h.Holidays[k].Day == day) with
      | true => exact .inl ⟨_, rfl, trivial⟩
      | false =>
        simp only [cond_false]
        rw [w64 (by omega) (by omega)]
        exact .inr ⟨_, rfl, ⟨by omega, by omega⟩, by omega⟩
    · exact .inl ⟨.inl (), by simp [hlt], trivial⟩) 0 ⟨by omega, by omega⟩
  obtain ⟨f, f1, _⟩ := loopO_ind (step := fun s : Int => F89_dialplan_isOpen_l1 h day minute (day / 7) s) (fun q => 0 ≤ q ∧ q ≤ h.Rows.length) (fun _ => True) (fun q => (h.Rows.length - q).toNat) (fun q hq => by
    obtain ⟨q0, q1⟩ := hq
    simp only [F89_dialplan_isOpen_l1]
    by_cases hlt : q < h.Rows.length
    · obtain ⟨k, rfl⟩ := Int.eq_ofNat_of_zero_le q0
      have hk : k < h.Rows.length := by omega
      have hd : (decide (((k : Nat) : Int) < (h.Rows.length : Int))) = true := by simp; exact hk
      rw [hd, idx_at hk]
      simp only [cond_true, Option.bind_some]
      rw [w64 (n := 7 * (day / 7)) (by omega) (by omega), w64 (n := day - 7 * (day / 7)) (by omega) (by omega)]
      have hn : ¬ (day - 7 * (day / 7) < 0) := by omega
      simp only [gshr, hn, if_false, Option.bind_some]
      generalize (((gand .i64 (h.Rows[k].Days.fdiv (2 ^ min (day - 7 * (day / 7)).toNat IntKind.i64.bits)) 1 != 0) && decide (minute ≥ h.Rows[k].From)) && decide (minute < h.Rows[k].To)) = c
      cases c with
      | true => exact .inl ⟨_, rfl, trivial⟩
      | false =>
        simp only [cond_false]
        rw [w64 (by omega) (by omega)]
        exact .inr ⟨_, rfl, ⟨by omega, by omega⟩, by omega⟩
    · exact .inl ⟨.inl (), by simp [hlt], trivial⟩) 0 ⟨by omega, by omega⟩
  unfold opD
  rw [e1]
  match e with
  | .inr r => exact ⟨r, rfl⟩
  | .inl _ =>
    simp only [lret, floor_is day 7 (by omega) (by omega) (by omega) (by omega), Option.bind_some, f1]
    match f with
    | .inr r => exact ⟨r, rfl⟩
    | .inl _ => exact ⟨_, rfl⟩
/-- Are hours open in a minute? -/
noncomputable def op (h : T_api_Hours) (m : Int) : Bool := (opD h ((m + h.Zone) / 1440) ((m + h.Zone) % 1440)).getD false
theorem open_is (h : T_api_Hours) (hg : HGood h) (at_ : Int) (h1 : 0 ≤ at_) (h2 : at_ ≤ 1000000000) : F89_dialplan_isOpen h at_ = some (op h (at_ / 60000)) := by
  obtain ⟨z1, z2, _⟩ := id hg
  have e1 : (at_ + h.Zone * 60000) / 86400000 = (at_ / 60000 + h.Zone) / 1440 := by omega
  have e2 : (at_ + h.Zone * 60000 - (at_ + h.Zone * 60000) / 86400000 * 86400000).tdiv 60000 = (at_ / 60000 + h.Zone) % 1440 := by
    rw [Int.tdiv_eq_ediv_of_nonneg (by omega)]; omega
  obtain ⟨b, hb⟩ := opD_is h hg ((at_ / 60000 + h.Zone) / 1440) ((at_ / 60000 + h.Zone) % 1440) (by omega) (by omega)
  simp only [F89_dialplan_isOpen, bnd]
  rw [w64 (n := h.Zone * 60000) (by omega) (by omega), w64 (n := at_ + h.Zone * 60000) (by omega) (by omega), floor_is _ _ (by omega) (by omega) (by omega) (by omega)]
  simp only [Option.bind_some]
  rw [w64 (n := (at_ + h.Zone * 60000) / 86400000 * 86400000) (by omega) (by omega), w64 (n := at_ + h.Zone * 60000 - (at_ + h.Zone * 60000) / 86400000 * 86400000) (by omega) (by omega), e2, w64 (by omega) (by omega), e1]
  show opD h _ _ = _
  unfold op
  rw [hb]; rfl

theorem within_ok {n lo hi : Int} (h1 : lo ≤ n) (h2 : n ≤ hi) : F134_dialplan_within n lo hi = some true := by
  have : F134_dialplan_within n lo hi = some (decide (n ≥ lo) && decide (n ≤ hi)) := rfl
  rw [this]; simp [h1, h2]
theorem time_ok {a b : Int} (h1 : 0 ≤ a) (h2 : a < b) (h3 : b ≤ 1440) : F163_dialplan_isTime a b = some true := by
  have : F163_dialplan_isTime a b = some ((decide (a ≥ 0) && decide (a < b)) && decide (b ≤ 1440)) := rfl
  rw [this]; simp [h1, h2, h3]
theorem key_ok : F110_number_IsKey [104, 97] = some true := by kernel_rfl
theorem times_is (h : T_api_Hours) (hg : HGood h) : F135_dialplan_checkTimes h = some 0 := by
  obtain ⟨_, _, r1, r2, o1, o2, o3⟩ := hg
  have n1 : (decide (((h.Rows.length : Nat) : Int) > 50)) = false := by simp; omega
  have n2 : (decide (((h.Holidays.length : Nat) : Int) > 200)) = false := by simp; omega
  have l0 : loopO (fun s : Int => F135_dialplan_checkTimes_l0 h s) 0 = some (.inl ()) := by
    have := loop_for (N := h.Rows.length) (step := fun s : Int => F135_dialplan_checkTimes_l0 h s) (fun k => (k : Int)) (.inl ()) (fun k hk => by
      obtain ⟨a1, a2, a3, a4, a5⟩ := r2 _ (List.getElem_mem hk)
      have hd : (decide (((k : Nat) : Int) < (h.Rows.length : Int))) = true := by simp; exact hk
      simp only [F135_dialplan_checkTimes_l0]
      rw [hd, idx_at hk]
      simp only [cond_true, Option.bind_some, within_ok a1 a2, Bool.not_true, cond_false, time_ok a3 a4 a5]
      rw [w64 (by omega) (by omega)]; rfl) (by simp [F135_dialplan_checkTimes_l0])
    simpa using this
  have l1 : loopO (fun s : Int => F135_dialplan_checkTimes_l1 h s) 0 = some (.inl ()) := by
    have := loop_for (N := h.Holidays.length) (step := fun s : Int => F135_dialplan_checkTimes_l1 h s) (fun k => (k : Int)) (.inl ()) (fun k hk => by
      obtain ⟨a1, a2, a3⟩ := o2 _ (List.getElem_mem hk)
      have hd : (decide (((k : Nat) : Int) < (h.Holidays.length : Int))) = true := by simp; exact hk
      have ht : (bif ((h.Holidays[k].From != ((0 : Int))) || (h.Holidays[k].To != ((0 : Int)))) then ((F163_dialplan_isTime h.Holidays[k].From h.Holidays[k].To).bind fun y165 => some (!y165)) else (some false)) = some false := by
        rcases a3 with ⟨b1, b2⟩ | ⟨b1, b2, b3⟩
        · rw [b1, b2]; rfl
        · rw [time_ok b1 b2 b3]
          cases ((h.Holidays[k].From != ((0 : Int))) || (h.Holidays[k].To != ((0 : Int)))) <;> rfl
      have prev : (bif (decide ((k : Int) > ((0 : Int)))) then ((idx h.Holidays ((IntKind.wrap .i64 ((k : Int) - ((1 : Int)))))).bind fun y205 => some ((decide (h.Holidays[k].Day ≤ y205.Day)))) else (some false)) = some false := by
        by_cases h0 : k = 0
        · subst h0; simp
        · have e : IntKind.wrap .i64 ((k : Int) - 1) = ((k - 1 : Nat) : Int) := by rw [w64 (by omega) (by omega)]; omega
          have hpos : (decide ((k : Int) > 0)) = true := by simp; omega
          have hle := List.pairwise_iff_getElem.1 o3 (k - 1) k (by simp; omega) (by simpa using hk) (by omega)
          simp only [List.getElem_map] at hle
          rw [hpos, e, idx_at (by omega : k - 1 < h.Holidays.length)]
          simp only [cond_true, Option.bind_some]
          congr 1; simp; omega
      simp only [F135_dialplan_checkTimes_l1]
      rw [hd, idx_at hk]
      simp only [cond_true, Option.bind_some, within_ok a1 a2, Bool.not_true, cond_false]
      rw [ht]
      simp only [Option.bind_some, cond_false]
      rw [prev]
      simp only [Option.bind_some, cond_false]
      rw [w64 (by omega) (by omega)]; rfl) (by simp [F135_dialplan_checkTimes_l1])
    simpa using this
  simp only [F135_dialplan_checkTimes, n1, n2, cond_false, l0, l1, lret]
theorem hours_ok (h : T_api_Hours) (hg : HGood h) (hk : h.Key = [104, 97]) : F87_dialplan_CheckHours [h] = some 0 := by
  have e0 : idx [h] 0 = some h := rfl
  have hl : ((List.length [h] : Nat) : Int) = 1 := rfl
  have z := within_ok hg.1 hg.2.1
  have s0 : F87_dialplan_CheckHours_l0 [h] 0 = some (.inl 1) := by
    simp only [F87_dialplan_CheckHours_l0, hl, e0, Option.bind_some, hk, key_ok, z, times_is h hg]; rfl
  have : loopO (fun s : Int => F87_dialplan_CheckHours_l0 [h] s) 0 = some (.inl ()) := by
    rw [loopO_eq, s0]
    show loopO _ 1 = _
    rw [loopO_eq]; rfl
  simp only [F87_dialplan_CheckHours, hl, this, lret]; rfl
theorem Open_is (h : T_api_Hours) (hg : HGood h) (hk : h.Key = [104, 97]) (at_ : Int) (h1 : 0 ≤ at_) (h2 : at_ ≤ 1000000000) : F50_dialplan_Open h at_ = some (op h (at_ / 60000), 0) := by
  have hm : F91_number_IsMoment at_ = some true := by
    have h3 : at_ < 345686400000 := by omega
    simp [F91_number_IsMoment, bnd, h1, h3]
  simp only [F50_dialplan_Open, hours_ok h hg hk, Option.bind_some, bne_self_eq_false, cond_false, hm, Bool.not_true, open_is h hg at_ h1 h2]

end Go.Proofs.YtcbepglkfglclaaDoor
