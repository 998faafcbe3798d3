/-
  What small functions come to: media's samples and bytes, the stream's numbers.
-/
import Derived.Test.YtcbepglkfglclaaDoorHVC
namespace Go.Proofs.YtcbepglkfglclaaDoor
open Go Go.Abs
set_option maxRecDepth 100000

theorem emod_of_tmod (x n : Int) (hn : 1 ≤ n) : x % n = if x.tmod n < 0 then x.tmod n + n else x.tmod n := by
  have hlt : (x.tmod n) < n := Int.tmod_lt_of_pos _ (by omega)
  have hgt : -n < x.tmod n := by
    have := Int.tmod_lt_of_pos (-x) (b := n) (by omega)
    rw [Int.neg_tmod] at this; omega
  have h1 : x % n = x.tmod n % n := by
    have := Int.mul_tdiv_add_tmod x n
    conv => lhs; rw [← this]
    rw [Int.add_comm, Int.add_mul_emod_self_left]
  rw [h1]
  split
  · rw [← Int.add_emod_right, Int.emod_eq_of_lt (by omega) (by omega)]
  · exact Int.emod_eq_of_lt (by omega) hlt
theorem s74 (n lo hi : Int) (lent : Bool) : pureCall L 74 [.c (I (.int .i64 n)), .c (I (.int .i64 lo)), .c (I (.int .i64 hi))] lent = some [.c (I (.bool (decide (lo ≤ n ∧ n ≤ hi))))] := by
  refine pure_wp (fn := ir74) rfl (by simp [ir74]) ?_
  unfold ir74
  refine wpE_seq (wp_reg ?_)
  simp
  refine wpE_seq (wp_reg ?_)
  by_cases h : lo ≤ n <;> simp [h]
  all_goals exact wpE_ret (by simp)
theorem s72 (n : Int) (lent : Bool) : pureCall L 72 [.c (I (.int .i64 n))] lent = some [.c (I (.bool (decide (-32768 ≤ n ∧ n ≤ 32767))))] := by
  refine pure_wp (fn := ir72) rfl (by simp [ir72]) ?_
  unfold ir72
  refine wpE_seq (wp_reg ?_)
  simp
  refine wpE_seq (wp_reg ?_)
  simp [s74]
  exact wpE_ret (by simp)
theorem s73 (n : Int) (lent : Bool) : pureCall L 73 [.c (I (.int .i64 n))] lent = some [.c (I (.int .i64 (min (max n (-32768)) 32767)))] := by
  refine pure_wp (fn := ir73) rfl (by simp [ir73]) ?_
  unfold ir73
  refine wpE_seq (wp_reg ?_)
  simp
  refine wpE_seq (wp_reg ?_)
  simp
  refine wpE_ret ?_
  simp
  omega
/-- What Below gives. -/
def below (x n : Int) : Int := if n < 1 then 0 else x % n
theorem below_is (x n : Int) : (n < 1 → below x n = 0) ∧ (1 ≤ n → 0 ≤ below x n ∧ below x n < n) :=
  ⟨fun h => by simp [below, h], fun h => by
    have : ¬ n < 1 := by omega
    simp only [below, this, if_false]
    exact ⟨Int.emod_nonneg _ (by omega), Int.emod_lt_of_pos _ (by omega)⟩⟩
theorem s108 (x n : Int) (h2 : n ≤ 9223372036854775807) (lent : Bool) : pureCall L 108 [.c (I (.int .i64 x)), .c (I (.int .i64 n))] lent = some [.c (I (.int .i64 (below x n)))] := by
  unfold below
  refine pure_wp (fn := ir108) rfl (by simp [ir108]) ?_
  unfold ir108
  refine wpE_seq (wp_reg ?_)
  simp
  refine wpE_seq (wpE_seq (wp_reg ?_))
  simp
  refine wpE_if ?_
  simp
  refine ⟨fun h => ?_, fun h => ?_⟩
  · refine wpE_seq (wp_reg ?_)
    simp
    refine wpE_ret ?_
    simp [h]
  · refine wpE_skip ?_
    simp
    refine wpE_seq (wp_reg ?_)
    have hn : n ≠ 0 := by omega
    simp [hn]
    refine wpE_seq (wpE_seq (wp_reg ?_))
    simp
    refine wpE_if ?_
    simp
    have hlt : (x.tmod n) < n := Int.tmod_lt_of_pos _ (by omega)
    have hgt : -n < x.tmod n := by
      have := Int.tmod_lt_of_pos (-x) (b := n) (by omega)
      rw [Int.neg_tmod] at this; omega
    have hnn : ¬ n < 1 := by omega
    have hm : x % n = if x.tmod n < 0 then x.tmod n + n else x.tmod n := by
      exact emod_of_tmod x n h
    refine ⟨fun h => ?_, fun h => ?_⟩
    · refine wp_reg ?_
      simp (disch := omega) [wrap_i64]
      refine wpE_seq (wp_reg ?_)
      simp
      refine wpE_ret ?_
      simp [hnn, hm, h]
    · refine wpE_skip ?_
      simp
      refine wpE_seq (wp_reg ?_)
      simp
      refine wpE_ret ?_
      have : ¬ x.tmod n < 0 := by omega
      simp [hnn, hm, this]

theorem pure_of_run {G : Nat → List IV} {F : Nat → Option Abs.Fn} {X : Run} {f n d : Nat} {as vs : List A1} {lent : Bool} (h : ∃ hp, run G F X n d f as [] = some (vs, hp)) (hb : ∀ hp, traverse (back1 hp [] lent) vs = some vs) : pureCall (lim G F X) f as lent = some vs := by
  obtain ⟨hp, h⟩ := h
  simp only [pureCall, lim_of h, hb]


/-- The sample of a byte. -/
def expand (b : Int) : Int :=
  let n := 255 - b
  let m := ((2 * (n % 16) + 33) * 2 ^ (n / 16 % 8).toNat - 33) * 4
  if n / 128 = 1 then -m - 1 else m
def isInt : Option (List A1 × Heap) → Int → Bool
  | some ([.c (.r (.i (.int .i64 x)))], _), y => decide (x = y)
  | _, _ => false
theorem s26a : (List.range 256).all (fun b => isInt (run tabs fns (xRun kx) 3 3 26 [.c (I (.int .u8 b))] []) (expand b)) = true := by kernel_rfl
theorem s26 (b : Int) (h : 0 ≤ b ∧ b ≤ 255) (lent : Bool) : pureCall L 26 [.c (I (.int .u8 b))] lent = some [.c (I (.int .i64 (expand b)))] := by
  have := s26a
  rw [List.all_eq_true] at this
  have := this b.toNat (by simp; omega)
  have hb : ((b.toNat : Nat) : Int) = b := by omega
  rw [hb] at this
  refine pure_of_run (n := 3) (d := 3) ?_ (by simp)
  unfold isInt at this
  split at this
  · rename_i x hp e
    simp at this
    subst this
    exact ⟨_, by assumption⟩
  · simp at this

/-- What Compress finds: the exponent e and the fraction of a magnitude. -/
def isExp (m e : Int) : Prop := 0 ≤ e ∧ e ≤ 7 ∧ (e = 0 ∨ 2 ^ (e + 5).toNat ≤ m) ∧ (e = 7 ∨ m < 2 ^ (e + 6).toNat)
def mag (n : Int) : Int := min ((if n < 0 then -n - 1 else n) / 4) 8158 + 33
def comp (n e : Int) : Int := 255 - ((if n < 0 then 128 else 0) + 16 * e + (mag n / 2 ^ (e + 1).toNat - 16))
theorem pows (e : Int) (h : 0 ≤ e ∧ e ≤ 7) : e = 0 ∨ e = 1 ∨ e = 2 ∨ e = 3 ∨ e = 4 ∨ e = 5 ∨ e = 6 ∨ e = 7 := by omega
theorem s25 (n : Int) (h : -32768 ≤ n ∧ n ≤ 32767) (lent : Bool) : ∃ e, isExp (mag n) e ∧ pureCall L 25 [.c (I (.int .i64 n))] lent = some [.c (I (.int .u8 (comp n e))), .c (I (.int .i64 0))] := by
  have key : ∃ rs hp, L 25 [.c (I (.int .i64 n))] [] = some (rs, hp) ∧ ∃ e, isExp (mag n) e ∧ rs = [.c (I (.int .u8 (comp n e))), .c (I (.int .i64 0))] := by
    refine fn_wp (fn := ir25) rfl (by simp [ir25]) ?_
    unfold ir25
    refine wpE_seq (wp_reg ?_)
    simp
    refine wpE_seq (wpE_seq (wp_reg ?_))
    simp [s72]
    refine wpE_if ?_
    simp [h]
    refine wpE_skip ?_
    simp
    refine wpE_seq (wp_reg ?_)
    simp
    refine wpE_seq (wpE_mono (Q := fun ex σ hp ct => ex = .normal ∧ hp = [] ∧ σ 4 = V (.int .i64 (if n < 0 then 128 else 0)) ∧ σ 5 = V (.int .i64 (if n < 0 then -n - 1 else n))) ?_ ?_)
    · refine wpE_seq (wp_reg ?_)
      simp
      refine wpE_if ?_
      simp
      refine ⟨fun h1 => ?_, fun h1 => ?_⟩
      · refine wp_reg ?_
        simp (disch := omega) [wrap_i64, h1]
      · refine wpE_skip ?_
        have : ¬ n < 0 := by omega
        simp [this]
    rintro ex σ hp ct ⟨rfl, rfl, h4, h5⟩
    simp
    refine wpE_seq (wp_reg ?_)
    have hd : (if n < 0 then -n - 1 else n).tdiv 4 = (if n < 0 then -n - 1 else n) / 4 := Int.tdiv_eq_ediv_of_nonneg (by split <;> omega)
    obtain ⟨m, hmag⟩ : ∃ m, mag n = m := ⟨_, rfl⟩
    have hmn : (if 8158 < (if n < 0 then -n - 1 else n) / 4 then 8158 else (if n < 0 then -n - 1 else n) / 4) + 33 = m := by rw [← hmag]; unfold mag; omega
    have hr : 0 ≤ (if n < 0 then -n - 1 else n) ∧ (if n < 0 then -n - 1 else n) ≤ 32767 := by split <;> omega
    generalize (if n < 0 then -n - 1 else n) = x at *
    have hm : 33 ≤ m ∧ m ≤ 8191 := by omega
    simp (disch := omega) [h5, hd, wrap_i64]
    refine wpE_seq (wp_reg ?_)
    rw [hmn]
    simp
    refine wpE_seq (wpE_block (wpE_loop (fun k σ hp ct => ∃ e, 0 ≤ e ∧ e ≤ 7 ∧ k = (7 - e).toNat ∧ (e = 0 ∨ 2 ^ (e + 5).toNat ≤ m) ∧ hp = [] ∧ σ 4 = V (.int .i64 (if n < 0 then 128 else 0)) ∧ σ 5 = V (.int .i64 m) ∧ σ 6 = V (.int .i64 e)) 7 ⟨0, by omega, by omega, rfl, .inl rfl, rfl, by simp [h4], by simp, by simp⟩ ?_))
    rintro k σ hp ct ⟨e, he0, he7, rfl, hp, rfl, h4, h5, h6⟩
    have fin : ∀ σ ct, σ 4 = V (.int .i64 (if n < 0 then 128 else 0)) → σ 5 = V (.int .i64 m) → σ 6 = V (.int .i64 e) → (e = 7 ∨ m < 2 ^ (e + 6).toNat) → wpE tabs L 45 (.seq (.reg [.op (some 32) none (.mov (.t 5)), .op (some 33) none (.mov (.t 6)), .op (some 34) none (.bin .add (.t 33) (.c (.int .i64 1))), .op (some 35) none (.bin .shr (.t 32) (.t 34)), .op (some 36) none (.bin .sub (.t 35) (.c (.int .i64 16))), .op (some 7) none (.mov (.t 36))]) (.seq (.reg [.op (some 37) none (.mov (.t 4)), .op (some 38) none (.mov (.t 6)), .op (some 39) none (.bin .mul (.c (.int .i64 16)) (.t 38)), .op (some 40) none (.bin .add (.t 37) (.t 39)), .op (some 41) none (.mov (.t 7)), .op (some 42) none (.bin .add (.t 40) (.t 41)), .op (some 43) none (.bin .sub (.c (.int .i64 255)) (.t 42)), .op (some 44) none (.cvI .u8 (.t 43)), .op (some 2) none (.mov (.t 44)), .op (some 3) none (.mov (.c (.int .i64 0)))]) (.ret))) σ [] ct (atEnd 45 [Res.tmp 2, Res.tmp 3] fun rs hp => ∃ e, isExp (mag n) e ∧ rs = [A1.c (I (IV.int IntKind.u8 (comp n e))), A1.c (I (IV.int IntKind.i64 0))]) := by
      clear h4 h5 h6
      intro σ ct h4 h5 h6 hx
      have hie : isExp (mag n) e := by rw [hmag]; exact ⟨he0, he7, hp, hx⟩
      have hs : 0 ≤ (if n < 0 then 128 else 0 : Int) ∧ (if n < 0 then 128 else 0 : Int) ≤ 128 := by split <;> omega
      have hf : 0 ≤ m / 2 ^ (e + 1).toNat - 16 ∧ m / 2 ^ (e + 1).toNat - 16 ≤ 15 := by
        rcases pows e ⟨he0, he7⟩ with rfl | rfl | rfl | rfl | rfl | rfl | rfl | rfl <;> simp at hx hp ⊢ <;> omega
      have hcomp : comp n e = 255 - ((if n < 0 then 128 else 0) + 16 * e + (m / 2 ^ (e + 1).toNat - 16)) := by unfold comp; rw [hmag]
      generalize (if n < 0 then 128 else 0 : Int) = sg at *
      have hb : min (e + 1).toNat IntKind.i64.bits = (e + 1).toNat := by simp [IntKind.bits]; omega
      have hfd : m.fdiv (2 ^ (e + 1).toNat) = m / 2 ^ (e + 1).toNat := Int.fdiv_eq_ediv_of_nonneg _ (by exact Int.le_of_lt (Int.pow_pos (by omega)))
      have he1 : ¬ (e + 1 < 0) := by omega
      refine wpE_seq (wp_reg ?_)
      simp (disch := omega) [h4, h5, h6, wrap_i64, he1, hb, hfd]
      refine wpE_seq (wp_reg ?_)
      simp (disch := omega) [h4, h5, h6, wrap_i64, wrap_u8]
      refine wpE_ret ?_
      simp
      exact ⟨e, hie, hcomp.symm⟩
    refine wpE_seq (wpE_seq (wp_reg ?_))
    by_cases h7 : e < 7
    · have hb : min (e + 6).toNat IntKind.i64.bits = (e + 6).toNat := by simp [IntKind.bits]; omega
      have he1 : ¬ (e + 6 < 0) := by omega
      have hpw : (2:Int) ^ (e + 6).toNat ≤ 4096 ∧ 0 < (2:Int) ^ (e + 6).toNat := by
        rcases pows e ⟨he0, he7⟩ with rfl | rfl | rfl | rfl | rfl | rfl | rfl | rfl <;> simp at h7 ⊢
      simp (disch := omega) [h4, h5, h6, h7, wrap_i64, hb, he1]
      refine wpE_if ?_
      simp
      refine ⟨fun h8 => ?_, fun h8 => ?_⟩
      · refine wpE_skip ?_
        simp
        refine wpE_block (wp_reg ?_)
        simp (disch := omega) [h4, h5, h6, wrap_i64]
        have h9 : e + 1 + 5 = e + 6 := by omega
        exact again_intro (7 - (e + 1)).toNat (by omega) ⟨e + 1, by omega, by omega, rfl, .inr (by rw [h9]; exact h8), rfl, by simp [h4, h5]⟩
      · refine wpE_exit ?_
        simp
        refine fin _ _ ?_ ?_ ?_ (.inr h8) <;> simp [h4, h5, h6]
    · simp [h4, h5, h6, h7]
      refine wpE_if ?_
      simp
      refine wpE_exit ?_
      simp
      refine fin _ _ ?_ ?_ ?_ (.inl (by omega)) <;> simp [h4, h5, h6]
  obtain ⟨rs, hp, h1, e, h2, rfl⟩ := key
  exact ⟨e, h2, by simp [pureCall, h1]⟩

end Go.Proofs.YtcbepglkfglclaaDoor
