/-
  PricesGrow: the tariff is right; what a talk costs.
-/
import Derived.Test.YtcbepglkfglclaaDoorHM3P
import Derived.KernelRfl
namespace Go.Proofs.YtcbepglkfglclaaDoor
open Go Go.Abs
set_option maxRecDepth 100000
set_option maxHeartbeats 1000000

theorem pre_all : (List.range 5).all (fun i => F109_account_isPrefix (PX i) == some true) = true := by kernel_rfl
theorem pre_ok {j : Nat} (h : j < 5) : F109_account_isPrefix (PX j) = some true := by simpa using List.all_eq_true.1 pre_all j (List.mem_range.2 h)
theorem key_all : nms.all (fun n => F110_number_IsKey n == some true) = true := by kernel_rfl
theorem key_ok {n : List UInt8} (h : n ∈ nms) : F110_number_IsKey n = some true := by simpa using List.all_eq_true.1 key_all n h
theorem less_all : (List.range 5).all (fun i => (List.range i).all fun j => !(Op.bytesLess (PX i) (PX j) || PX i == PX j)) = true := by kernel_rfl
theorem less_no {i j : Nat} (h : j < i) (hi : i < 5) : (Op.bytesLess (PX i) (PX j) || PX i == PX j) = false := by
  have := List.all_eq_true.1 (List.all_eq_true.1 less_all i (List.mem_range.2 hi)) j (List.mem_range.2 h)
  simpa using this
theorem within_is (n lo hi : Int) : F62_account_within n lo hi = some (decide (n ≥ lo) && decide (n ≤ hi)) := rfl
theorem within_ok {n lo hi : Int} (h1 : lo ≤ n) (h2 : n ≤ hi) : F62_account_within n lo hi = some true := by simp [within_is, h1, h2]
theorem Srt.two {cs : List T_api_Class} (h : Srt cs 5) {a b : Nat} (hab : a < b) (hb : b < cs.length) : ∃ i j, i < j ∧ j < 5 ∧ (cs[a]'(by omega)).Prefix = PX i ∧ cs[b].Prefix = PX j := by
  obtain ⟨js, h1, h2, h3, h4⟩ := h
  obtain ⟨i, p1, p2⟩ := h2 a (by omega)
  obtain ⟨j, q1, q2⟩ := h2 b hb
  have ha' : a < js.length := by omega
  have hb' : b < js.length := by omega
  rw [List.getElem?_eq_getElem ha'] at p1
  rw [List.getElem?_eq_getElem hb'] at q1
  have := List.pairwise_iff_getElem.1 h4 a b ha' hb' hab
  obtain rfl := Option.some.inj p1
  obtain rfl := Option.some.inj q1
  exact ⟨_, _, this, h3 _ (List.getElem_mem hb'), p2, q2⟩
theorem Srt.one {cs : List T_api_Class} (h : Srt cs 5) {a : Nat} (ha : a < cs.length) : ∃ i, i < 5 ∧ cs[a].Prefix = PX i := by
  obtain ⟨js, h1, h2, h3, h4⟩ := h
  obtain ⟨i, p1, p2⟩ := h2 a ha
  exact ⟨i, h3 _ (List.mem_of_getElem? p1), p2⟩

theorem inside_is (cs : List T_api_Class) (fr : Int) (l : List (List UInt8)) (h : l ∈ inss) : loopO (fun s : Int => F60_account_CheckTariff_l1 ⟨cs, fr, l⟩ s) 0 = some (.inl ()) ∧ l.length ≤ 2 := by
  have k1 : F110_number_IsKey [104, 111, 109, 101] = some true := key_ok (by simp [nms])
  have k2 : F110_number_IsKey [110, 101, 97, 114] = some true := key_ok (by simp [nms])
  have k3 : Op.bytesLess ([110, 101, 97, 114] : List UInt8) [104, 111, 109, 101] = false := by kernel_rfl
  simp only [inss, List.mem_cons, List.not_mem_nil, or_false] at h
  rcases h with rfl | rfl | rfl
  · refine ⟨?_, by simp⟩
    have := loop_for (N := 0) (step := fun s : Int => F60_account_CheckTariff_l1 ⟨cs, fr, []⟩ s) (fun k => (k : Int)) (.inl ()) (fun k hk => by omega) (by simp [F60_account_CheckTariff_l1])
    simpa using this
  · refine ⟨?_, by simp⟩
    have := loop_for (N := 1) (step := fun s : Int => F60_account_CheckTariff_l1 ⟨cs, fr, [[104, 111, 109, 101]]⟩ s) (fun k => (k : Int)) (.inl ()) (fun k hk => by
      obtain rfl : k = 0 := by omega
      simp [F60_account_CheckTariff_l1, idx, k1, w64]) (by simp [F60_account_CheckTariff_l1])
    simpa using this
  · refine ⟨?_, by simp⟩
    have := loop_for (N := 2) (step := fun s : Int => F60_account_CheckTariff_l1 ⟨cs, fr, [[104, 111, 109, 101], [110, 101, 97, 114]]⟩ s) (fun k => (k : Int)) (.inl ()) (fun k hk => by
      rcases (by omega : k = 0 ∨ k = 1) with rfl | rfl
      · simp [F60_account_CheckTariff_l1, idx, k1, w64]
      · simp [F60_account_CheckTariff_l1, idx, k2, w64]
        rw [k3]; rfl) (by simp [F60_account_CheckTariff_l1])
    simpa using this
theorem check_is (t : T_api_Tariff) (h : TGood t) : F60_account_CheckTariff t = some 0 := by
  obtain ⟨cs, fr, ins⟩ := t
  obtain ⟨h1, h2, h3, h4, h5, h6⟩ := h
  simp only [] at h1 h2 h3 h4 h5 h6
  obtain ⟨i1, i2⟩ := inside_is cs fr ins h6
  have hl : loopO (fun s : Int => F60_account_CheckTariff_l0 ⟨cs, fr, ins⟩ s) 0 = some (.inl ()) := by
    have := loop_for (N := cs.length) (step := fun s : Int => F60_account_CheckTariff_l0 ⟨cs, fr, ins⟩ s) (fun k => (k : Int)) (.inl ()) (fun k hk => by
      obtain ⟨c1, c2, c3, c4, c5, c6, c7, c8, c9⟩ := h2 _ (List.getElem_mem hk)
      obtain ⟨j, hj, hpx⟩ := h3.one hk
      have prev : (bif (decide ((k : Int) > ((0 : Int)))) then ((idx cs ((IntKind.wrap .i64 ((k : Int) - ((1 : Int)))))).bind fun y147 => some ((Op.bytesLess cs[k].Prefix y147.Prefix || cs[k].Prefix == y147.Prefix))) else (some false)) = some false := by
        by_cases h0 : k = 0
        · subst h0; simp
        · have e : IntKind.wrap .i64 ((k : Int) - 1) = ((k - 1 : Nat) : Int) := by rw [w64 (by omega) (by omega)]; omega
          obtain ⟨a, b, hab, hb, e1, e2⟩ := h3.two (a := k - 1) (b := k) (by omega) hk
          have hpos : (decide ((k : Int) > 0)) = true := by simp; omega
          rw [hpos, e, idx_at (by omega : k - 1 < cs.length)]
          simp only [cond_true, Option.bind_some, e1, e2, less_no hab hb]
      simp only [F60_account_CheckTariff_l0]
      have hlt : (decide ((k : Int) < (cs.length : Int))) = true := by simp; exact hk
      rw [hlt, idx_at hk]
      simp only [cond_true, Option.bind_some, Bool.not_true, cond_false]
      rw [show F109_account_isPrefix cs[k].Prefix = some true by rw [hpx]; exact pre_ok hj, key_ok c1, within_ok c2 (by omega)]
      simp only [cond_true, Option.bind_some, Bool.not_true, cond_false]
      rw [within_ok c8 (by omega)]
      simp only [cond_true, Option.bind_some, Bool.not_true, cond_false]
      rw [within_ok c4 (by omega)]
      simp only [cond_true, Option.bind_some, Bool.not_true, cond_false]
      rw [within_ok c6 (by omega)]
      simp only [cond_true, Option.bind_some, Bool.not_true, cond_false]
      rw [prev]
      simp only [Option.bind_some, cond_false]
      rw [w64 (by omega) (by omega)]
      rfl) (by simp [F60_account_CheckTariff_l0])
    simpa using this
  have n1 : (decide ((cs.length : Int) > 200)) = false := by simp; omega
  have n2 : (decide ((ins.length : Int) > 200)) = false := by simp; omega
  simp only [F60_account_CheckTariff, n1, n2, hl, i1, lret, cond_false, within_ok h4 (show fr ≤ 2592000000 by omega), Option.bind_some, Bool.not_true]

/-- What a talk costs. -/
def cost (c : T_api_Class) (talk : Int) : Int := c.Setup + c.Rate * (((if talk - c.First > 0 then talk - c.First else 0) + c.Step - 1) / c.Step)
theorem price_is (c : T_api_Class) (h : CGood c) (talk : Int) (h1 : 1 ≤ talk) (h2 : talk ≤ 200000) : F64_account_price c talk = some (cost c talk) := by
  obtain ⟨c1, c2, c3, c4, c5, c6, c7, c8, c9⟩ := h
  have e0 : (talk == (0 : Int)) = false := by simp; omega
  have e1 : IntKind.wrap .i64 (talk - c.First) = talk - c.First := w64 (by omega) (by omega)
  simp only [F64_account_price, e0, cond_false, e1, gmax]
  generalize ho : (if talk - c.First > 0 then talk - c.First else 0) = o
  have o1 : 0 ≤ o ∧ o ≤ 200000 := by subst ho; split <;> omega
  rw [w64 (n := o + c.Step) (by omega) (by omega), w64 (n := o + c.Step - 1) (by omega) (by omega)]
  have hs : ¬ c.Step = 0 := by omega
  have q0 : 0 ≤ (o + c.Step - 1) / c.Step := Int.ediv_nonneg (by omega) (by omega)
  have q1 : (o + c.Step - 1) / c.Step ≤ o + c.Step - 1 := Int.ediv_le_self _ (by omega)
  have eq : (o + c.Step - 1).tdiv c.Step = (o + c.Step - 1) / c.Step := Int.tdiv_eq_ediv_of_nonneg (by omega)
  have r1 : 0 ≤ c.Rate * ((o + c.Step - 1) / c.Step) := Int.mul_nonneg c8 q0
  have r2 : c.Rate * ((o + c.Step - 1) / c.Step) ≤ 500 * 260000 := Int.mul_le_mul c9 (by omega) q0 (by omega)
  simp only [gquo, hs, if_false, Option.bind_some, bnd, eq]
  rw [w64 (n := (o + c.Step - 1) / c.Step) (by omega) (by omega), w64 (n := c.Rate * _) (by omega) (by omega), w64 (by omega) (by omega)]
  simp only [cost, ho]
theorem cost_grows (c : T_api_Class) (h : CGood c) (a b : Int) (hab : a ≤ b) : cost c a ≤ cost c b := by
  obtain ⟨c1, c2, c3, c4, c5, c6, c7, c8, c9⟩ := h
  unfold cost
  have : ((if a - c.First > 0 then a - c.First else 0) + c.Step - 1) / c.Step ≤ ((if b - c.First > 0 then b - c.First else 0) + c.Step - 1) / c.Step := by
    refine Int.ediv_le_ediv (by omega) ?_
    split <;> split <;> omega
  have := Int.mul_le_mul_of_nonneg_left this c8
  omega

/-- The beginnings of the numbers. -/
def keys : List (List UInt8) := num4.flatMap fun n => (List.range (n.length + 1)).map fun k => n.take k
def cB (a b : List UInt8) : Int := Lib.compareBytes a b
theorem keyM : keys.all (fun k => (List.range 5).all fun b => (List.range b).all fun a => !(decide (cB (PX b) k < 0)) || decide (cB (PX a) k < 0)) = true := by kernel_rfl
theorem keyZ : keys.all (fun k => (List.range 5).all fun b => (List.range b).all fun a => !(decide (cB (PX b) k = 0)) || decide (cB (PX a) k < 0)) = true := by kernel_rfl
theorem keyE : keys.all (fun k => (List.range 5).all fun a => decide (cB (PX a) k = 0) == decide (PX a = k)) = true := by kernel_rfl
theorem cmp_is (c : T_api_Class) (k : List UInt8) : F113_account_classOf_1 c k = some (cB c.Prefix k) := rfl
theorem cB_m {k : List UInt8} (hk : k ∈ keys) {a b : Nat} (hab : a < b) (hb : b < 5) (h : cB (PX b) k < 0) : cB (PX a) k < 0 := by
  have := List.all_eq_true.1 (List.all_eq_true.1 (List.all_eq_true.1 keyM k hk) b (List.mem_range.2 hb)) a (List.mem_range.2 hab)
  simp [h] at this; exact this
theorem cB_z {k : List UInt8} (hk : k ∈ keys) {a b : Nat} (hab : a < b) (hb : b < 5) (h : cB (PX b) k = 0) : cB (PX a) k < 0 := by
  have := List.all_eq_true.1 (List.all_eq_true.1 (List.all_eq_true.1 keyZ k hk) b (List.mem_range.2 hb)) a (List.mem_range.2 hab)
  simp [h] at this; exact this
theorem cB_e {k : List UInt8} (hk : k ∈ keys) {a : Nat} (ha : a < 5) : cB (PX a) k = 0 ↔ PX a = k := by
  have := List.all_eq_true.1 (List.all_eq_true.1 keyE k hk) a (List.mem_range.2 ha)
  simpa using this

end Go.Proofs.YtcbepglkfglclaaDoor
