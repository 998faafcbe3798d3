/-
  KeysAreHeard: keys and silence, block by block.
-/
import Derived.Test.YtcbepglkfglclaaDoorHM7Pb
namespace Go.Proofs.YtcbepglkfglclaaDoor
open Go Go.Abs
set_option maxRecDepth 100000
set_option maxHeartbeats 1000000

theorem humA_take (c : Int) : ∀ (n m : Nat) (a b : Int), n ≤ m → (humA c m a b).take n = humA c n a b
  | 0, _, _, _, _ => rfl
  | n + 1, 0, _, _, h => absurd h (by omega)
  | n + 1, m + 1, a, b, h => by rw [humA, List.take_succ_cons, humA_take c n m b _ (by omega), humA]
theorem tone_take (k n m : Nat) (h : n ≤ m) : (toneL k m).take n = toneL k n := by
  unfold toneL humL
  rw [List.take_zipWith, humA_take _ n m _ _ h, humA_take _ n m _ _ h]
theorem tone_len (k n : Nat) : (toneL k n).length = n := by unfold toneL humL; simp [humA_len]
theorem heard_is (k j : Nat) (h : okB k j = true) : F76_media_strongest rowN (blk k j) = some (((k / 4 : Nat) : Int), true) ∧ F76_media_strongest colN (blk k j) = some (((k % 4 : Nat) : Int), true) := by
  simp only [okB, Bool.and_eq_true, beq_iff_eq, decide_eq_true_eq] at h
  obtain ⟨⟨⟨⟨⟨h1, h2⟩, h3⟩, h4⟩, h5⟩, h6⟩ := h
  have hl : (blk k j).length ≤ 100000 := by unfold blk; simp; omega
  have s1 := strong_is rowN (blk k j) (by decide) (by decide) hl h1
  have s2 := strong_is colN (blk k j) (by decide) (by decide) hl h2
  rw [show rowN.length = 4 from rfl, h3] at s1
  rw [show colN.length = 4 from rfl, h4] at s2
  rw [h3] at h5
  rw [h4] at h6
  exact ⟨by rw [s1, decide_eq_true h5], by rw [s2, decide_eq_true h6]⟩
/-- What a block comes to: -1: no key. -/
def keyOf (X : List Int) (p key : Int) : Prop := ∃ r c : Int × Bool, ∃ b, sub X p (IntKind.wrap .i64 (p + 205)) = some b ∧ F76_media_strongest rowN b = some r ∧ F76_media_strongest colN b = some c ∧
  (bif (r.2 && c.2) then (bnd (IntKind.wrap .i64 (IntKind.wrap .i64 (4 * r.1) + c.1)) fun u102 => some u102) else some (-1)) = some key
theorem step_is (X out : List Int) (last many p key : Int) (hp : 0 ≤ p) (hX : p + 205 ≤ X.length) (hX2 : X.length ≤ 100000) (hk : keyOf X p key) :
    F35_media_Keys_l0 X out last many p = (bif (key != last) then some (key, (0 : Int)) else some (last, many)).bind fun (l, m) => bnd (IntKind.wrap .i64 (m + 1)) fun u =>
      bif ((u == 2) && decide (key ≥ 0)) then ((idx pad key).bind fun y => (app 1 out [(y.toNat : Int)]).bind fun z => some (.inl (z, l, u, p + 205))) else some (.inl (out, l, u, p + 205)) := by
  obtain ⟨r, c, b, h1, h2, h3, h4⟩ := hk
  have w : IntKind.wrap .i64 (p + 205) = p + 205 := w64 (by omega) (by omega)
  rw [w] at h1
  simp only [F35_media_Keys_l0, w, hX, decide_true, cond_true, h1, Option.bind_some, F77_media_rows, F78_media_columns]
  rw [show ([27980, 26956, 25701, 24219] : List Int) = rowN from rfl, show ([19073, 16325, 13085, 9315] : List Int) = colN from rfl, h2, h3]
  simp only [Option.bind_some, h4]
  rfl
noncomputable abbrev KL (X : List Int) := fun s : List Int × Int × Int × Int => F35_media_Keys_l0 X s.1 s.2.1 s.2.2.1 s.2.2.2
theorem go_new (X out : List Int) (last many p key : Int) (hp : 0 ≤ p) (hX : p + 205 ≤ X.length) (hX2 : X.length ≤ 100000) (hk : keyOf X p key) (hn : key ≠ last) :
    loopO (KL X) (out, last, many, p) = loopO (KL X) (out, key, 1, p + 205) := by
  rw [loopO_eq (step := KL X)]
  have hb : (key != last) = true := by simpa using hn
  have := step_is X out last many p key hp hX hX2 hk
  rw [hb] at this
  simp only [cond_true, Option.bind_some, bnd] at this
  rw [show IntKind.wrap .i64 (0 + 1) = 1 from rfl] at this
  simp only [show (((1 : Int) == 2) && decide (key ≥ 0)) = false from rfl, cond_false] at this
  simp only [KL, this]
theorem go_two (X out : List Int) (p : Int) (k : Nat) (hk16 : k < 16) (hp : 0 ≤ p) (hX : p + 205 ≤ X.length) (hX2 : X.length ≤ 100000) (hk : keyOf X p k) (ho : out.length ≤ 1000) :
    loopO (KL X) (out, (k : Int), 1, p) = loopO (KL X) (out ++ [((pad.getD k 0).toNat : Int)], (k : Int), 2, p + 205) := by
  rw [loopO_eq (step := KL X)]
  have := step_is X out k 1 p k hp hX hX2 hk
  have hi : idx pad (k : Int) = some (pad.getD k 0) := by
    rw [idx_nat, List.getD_eq_getElem?_getD, List.getElem?_eq_getElem (by simpa [pad] using hk16)]; rfl
  have h0 : ((k : Int) ≥ 0) := by omega
  rw [bne_self_eq_false] at this
  simp only [cond_false, Option.bind_some, bnd] at this
  rw [show IntKind.wrap .i64 (1 + 1) = 2 from rfl] at this
  simp only [beq_self_eq_true, h0, decide_true, Bool.and_true, cond_true, hi, Option.bind_some] at this
  rw [app_of (by simp; omega) (by simp; omega)] at this
  simp only [Option.bind_some] at this
  simp only [KL, this]
theorem go_more (X out : List Int) (many p key : Int) (hp : 0 ≤ p) (hX : p + 205 ≤ X.length) (hX2 : X.length ≤ 100000) (hk : keyOf X p key) (hm : 0 ≤ many ∧ many ≤ 1000) (h2 : 2 ≤ many ∨ key < 0) :
    loopO (KL X) (out, key, many, p) = loopO (KL X) (out, key, many + 1, p + 205) := by
  rw [loopO_eq (step := KL X)]
  have := step_is X out key many p key hp hX hX2 hk
  rw [bne_self_eq_false] at this
  simp only [cond_false, Option.bind_some, bnd] at this
  rw [w64 (n := many + 1) (by omega) (by omega)] at this
  have hf : ((many + 1 == 2) && decide (key ≥ 0)) = false := by
    rcases h2 with h2 | h2
    · have : ¬ (many + 1 = 2) := by omega
      simp [this]
    · have : ¬ (key ≥ 0) := by omega
      simp [this]
  rw [hf] at this
  simp only [cond_false] at this
  simp only [KL, this]
theorem key_tone (X : List Int) (p : Int) (k j : Nat) (hk : k < 16) (h : okB k j = true) (hs : sub X p (IntKind.wrap .i64 (p + 205)) = some (blk k j)) : keyOf X p (k : Int) := by
  refine ⟨_, _, _, hs, (heard_is k j h).1, (heard_is k j h).2, ?_⟩
  simp only [Bool.and_self, cond_true, bnd]
  rw [w64 (n := 4 * ((k / 4 : Nat) : Int)) (by omega) (by omega), w64 (by omega) (by omega)]
  congr 1
  omega
def silent : Bool := clear (rowN.map (strV · (List.replicate 205 0))) && clear (colN.map (strV · (List.replicate 205 0))) && !decide ((rowN.map (strV · (List.replicate 205 0))).getD (bestN (rowN.map (strV · (List.replicate 205 0))) 4) 0 ≥ 4000000)
theorem key_zero (X : List Int) (p : Int) (h : silent = true) (hs : sub X p (IntKind.wrap .i64 (p + 205)) = some (List.replicate 205 0)) : keyOf X p (-1) := by
  simp only [silent, Bool.and_eq_true] at h
  obtain ⟨⟨h1, h2⟩, h3⟩ := h
  have s1 := strong_is rowN (List.replicate 205 0) (by decide) (by decide) (by simp) h1
  have s2 := strong_is colN (List.replicate 205 0) (by decide) (by decide) (by simp) h2
  refine ⟨_, _, _, hs, s1, s2, ?_⟩
  rw [show rowN.length = 4 from rfl]
  rw [Bool.not_eq_true'] at h3
  simp only [h3, Bool.false_and, cond_false]
theorem run_group (X out : List Int) (m p : Int) (k a b : Nat) (hk : k < 16) (ha : a = 3 ∨ a = 4) (hb : b = 2 ∨ b = 3) (hp : 0 ≤ p) (hX : p + 205 * (a + b) ≤ X.length) (hX2 : X.length ≤ 100000) (ho : out.length ≤ 1000)
    (hT : ∀ j : Nat, j < a → ∀ q : Int, q = p + 205 * j → keyOf X q k) (hZ : ∀ j : Nat, a ≤ j → j < a + b → ∀ q : Int, q = p + 205 * j → keyOf X q (-1)) :
    loopO (KL X) (out, -1, m, p) = loopO (KL X) (out ++ [((pad.getD k 0).toNat : Int)], -1, (b : Int), p + 205 * (a + b)) := by
  have hne : (k : Int) ≠ -1 := by omega
  rw [go_new X out (-1) m p k hp (by omega) hX2 (hT 0 (by omega) _ (by omega)) hne,
    go_two X out (p + 205) k hk (by omega) (by omega) hX2 (hT 1 (by omega) _ (by omega)) ho,
    go_more X _ 2 (p + 205 + 205) k (by omega) (by omega) hX2 (hT 2 (by omega) _ (by omega)) (by omega) (.inl (by omega))]
  have sil : ∀ (mm q : Int), 0 ≤ q → q = p + 205 * a → loopO (KL X) (out ++ [((pad.getD k 0).toNat : Int)], (k : Int), mm, q) = loopO (KL X) (out ++ [((pad.getD k 0).toNat : Int)], -1, (b : Int), p + 205 * (a + b)) := by
    intro mm q hq e
    rw [go_new X _ k mm q (-1) hq (by omega) hX2 (hZ a (by omega) (by omega) _ e) (by omega),
      go_more X _ 1 (q + 205) (-1) (by omega) (by omega) hX2 (hZ (a + 1) (by omega) (by omega) _ (by omega)) (by omega) (.inr (by omega))]
    rcases hb with rfl | rfl
    · rw [show q + 205 + 205 = p + 205 * ((a : Int) + ((2 : Nat) : Int)) from by omega]; rfl
    · rw [go_more X _ (1 + 1) (q + 205 + 205) (-1) (by omega) (by omega) hX2 (hZ (a + 2) (by omega) (by omega) _ (by omega)) (by omega) (.inr (by omega))]
      rw [show q + 205 + 205 + 205 = p + 205 * ((a : Int) + ((3 : Nat) : Int)) from by omega]; rfl
  rcases ha with rfl | rfl
  · exact sil _ _ (by omega) (by omega)
  · rw [go_more X _ (2 + 1) (p + 205 + 205 + 205) k (by omega) (by omega) hX2 (hT 3 (by omega) _ (by omega)) (by omega) (.inl (by omega))]
    exact sil _ _ (by omega) (by omega)
end Go.Proofs.YtcbepglkfglclaaDoor
