/-
  The plain law of samples and bytes: what is compressed comes back near, in order; bytes come back.
-/
import Derived.Test.YtcbepglkfglclaaDoorHVSc
namespace Go.Proofs.YtcbepglkfglclaaDoor
open Go Go.Abs
set_option maxRecDepth 100000

/-- The exponent of a magnitude. -/
def expOf (m : Int) : Int := if m < 64 then 0 else if m < 128 then 1 else if m < 256 then 2 else if m < 512 then 3 else if m < 1024 then 4 else if m < 2048 then 5 else if m < 4096 then 6 else 7
/-- The byte of a sample, computed. -/
def compF (n : Int) : Int := comp n (expOf (mag n))

theorem isExp_expOf (m : Int) (h : 33 ≤ m) : isExp m (expOf m) := by
  unfold expOf isExp
  repeat' split
  all_goals (refine ⟨by omega, by omega, ?_, ?_⟩ <;> simp <;> omega)

theorem mag_is (n : Int) (h : -32768 ≤ n ∧ n ≤ 32767) : 33 ≤ mag n ∧ mag n ≤ 8191 := by
  unfold mag; omega

theorem isComp_compF (n : Int) (h : -32768 ≤ n ∧ n ≤ 32767) : isComp n (compF n) := ⟨_, isExp_expOf _ (mag_is n h).1, rfl⟩

/-- The sample that a magnitude comes back as. -/
def great (m : Int) : Int := (((2 * (m / 2 ^ (expOf m + 1).toNat - 16)) + 33) * 2 ^ (expOf m).toNat - 33) * 4

theorem expand_of (sg e f : Int) (hs : sg = 0 ∨ sg = 128) (he : 0 ≤ e ∧ e ≤ 7) (hf : 0 ≤ f ∧ f ≤ 15) : expand (255 - (sg + 16 * e + f)) = if sg = 128 then -(((2 * f + 33) * 2 ^ e.toNat - 33) * 4) - 1 else ((2 * f + 33) * 2 ^ e.toNat - 33) * 4 := by
  have h0 : 255 - (255 - (sg + 16 * e + f)) = sg + 16 * e + f := by omega
  have h1 : (sg + 16 * e + f) % 16 = f := by omega
  have h2 : (sg + 16 * e + f) / 16 % 8 = e := by omega
  unfold expand
  simp only [h0, h1, h2]
  rcases hs with rfl | rfl
  · have h3 : ¬ ((0 + 16 * e + f) / 128 = 1) := by omega
    rw [if_neg h3, if_neg (by omega)]
  · have h3 : (128 + 16 * e + f) / 128 = 1 := by omega
    rw [if_pos h3, if_pos rfl]

theorem expand_compF (n : Int) (h : -32768 ≤ n ∧ n ≤ 32767) : 0 ≤ compF n ∧ compF n ≤ 255 ∧ expand (compF n) = if n < 0 then -great (mag n) - 1 else great (mag n) := by
  have hm := mag_is n h
  have he := isExp_expOf _ hm.1
  have hf : 0 ≤ mag n / 2 ^ (expOf (mag n) + 1).toNat - 16 ∧ mag n / 2 ^ (expOf (mag n) + 1).toNat - 16 ≤ 15 := by
    generalize mag n = m at *
    generalize expOf m = e at *
    obtain ⟨h1, h2, h3, h4⟩ := he
    rcases pows e ⟨h1, h2⟩ with rfl | rfl | rfl | rfl | rfl | rfl | rfl | rfl <;> simp at h3 h4 ⊢ <;> omega
  have hx := expand_of (if n < 0 then 128 else 0) (expOf (mag n)) _ (by split <;> simp) ⟨he.1, he.2.1⟩ hf
  have hc : compF n = 255 - ((if n < 0 then 128 else 0) + 16 * expOf (mag n) + (mag n / 2 ^ (expOf (mag n) + 1).toNat - 16)) := rfl
  obtain ⟨he1, he2, _⟩ := he
  refine ⟨?_, ?_, ?_⟩
  · rw [hc]; split <;> omega
  · rw [hc]; split <;> omega
  · rw [hc, hx]
    unfold great
    split <;> simp

theorem great_near (m : Int) (h : 33 ≤ m ∧ m ≤ 8191) : 8 * (great m - 4 * (m - 33)) ≤ m + 32 ∧ -(m + 32) ≤ 8 * (great m - 4 * (m - 33)) ∧ 0 ≤ great m := by
  have he := isExp_expOf _ h.1
  unfold great
  generalize expOf m = e at *
  obtain ⟨h1, h2, h3, h4⟩ := he
  rcases pows e ⟨h1, h2⟩ with rfl | rfl | rfl | rfl | rfl | rfl | rfl | rfl <;> simp at h3 h4 ⊢ <;> omega

theorem great_mono (m m' : Int) (h : 33 ≤ m) (hle : m ≤ m') (h' : m' ≤ 8191) : great m ≤ great m' := by
  have he := isExp_expOf m h
  have he' := isExp_expOf m' (by omega)
  unfold great
  generalize expOf m = e at *
  generalize expOf m' = e' at *
  obtain ⟨h1, h2, h3, h4⟩ := he
  obtain ⟨h1', h2', h3', h4'⟩ := he'
  rcases pows e ⟨h1, h2⟩ with rfl | rfl | rfl | rfl | rfl | rfl | rfl | rfl <;> rcases pows e' ⟨h1', h2'⟩ with rfl | rfl | rfl | rfl | rfl | rfl | rfl | rfl <;> simp at h3 h4 h3' h4' ⊢ <;> omega

theorem near (n : Int) (h : -32768 ≤ n ∧ n ≤ 32767) : max (expand (compF n) - n) (n - expand (compF n)) ≤ max n (-n) / 16 + 132 := by
  rw [(expand_compF n h).2.2]
  have hg := great_near (mag n) (mag_is n h)
  generalize great (mag n) = g at *
  unfold mag at hg
  split at * <;> omega

theorem mono (n o : Int) (h : -32768 ≤ n ∧ n ≤ 32767) (h' : -32768 ≤ o ∧ o ≤ 32767) (hle : n ≤ o) : expand (compF n) ≤ expand (compF o) := by
  rw [(expand_compF n h).2.2, (expand_compF o h').2.2]
  have g1 := (great_near (mag n) (mag_is n h)).2.2
  have g2 := (great_near (mag o) (mag_is o h')).2.2
  by_cases hn : n < 0
  · by_cases ho : o < 0
    · have : great (mag o) ≤ great (mag n) := great_mono _ _ (mag_is o h').1 (by unfold mag; simp only [hn, ho, if_true]; omega) (mag_is n h).2
      simp only [hn, ho, if_true]; omega
    · simp only [hn, ho, if_true, if_false]; omega
  · have ho : ¬ o < 0 := by omega
    have : great (mag n) ≤ great (mag o) := great_mono _ _ (mag_is n h).1 (by unfold mag; simp only [hn, ho, if_false]; omega) (mag_is o h').2
    simp only [hn, ho, if_false]; omega

theorem back_all : (List.range 256).all (fun b => decide (compF (expand b) = b ∧ -32768 ≤ expand b ∧ expand b ≤ 32767)) = true := by kernel_rfl
theorem back (b : Int) (h : 0 ≤ b ∧ b ≤ 255) : compF (expand b) = b ∧ -32768 ≤ expand b ∧ expand b ≤ 32767 := by
  have := List.all_eq_true.1 back_all b.toNat (by simp; omega)
  have hb : ((b.toNat : Nat) : Int) = b := by omega
  rw [hb] at this
  simpa using this

end Go.Proofs.YtcbepglkfglclaaDoor
