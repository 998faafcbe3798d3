/-
  KeysAreHeard, as a law of lists of numbers.
-/
import Derived.Test.YtcbepglkfglclaaDoorHM7Aa
import Derived.Test.YtcbepglkfglclaaDoorHAbsP1
namespace Go.Proofs.YtcbepglkfglclaaDoor
open Go Go.Abs
set_option maxRecDepth 100000
set_option maxHeartbeats 1000000

theorem within_is (n lo hi : Int) : F74_media_within n lo hi = some (decide (n ≥ lo) && decide (n ≤ hi)) := rfl
theorem below_is (x n : Int) (h1 : 1 ≤ n) (h2 : n ≤ 4611686018427387904) : F108_flashmake_Below x n = some (x % n) := by
  have hn : ¬ n < 1 := by omega
  have hn0 : n ≠ 0 := by omega
  have hlt : x.tmod n < n := Int.tmod_lt_of_pos _ (by omega)
  have hgt : -n < x.tmod n := by
    have := Int.tmod_lt_of_pos (-x) (b := n) (by omega)
    rw [Int.neg_tmod] at this; omega
  rw [emod_tmod x n h1]
  by_cases h : x.tmod n < 0
  · simp (disch := omega) [F108_flashmake_Below, hn, grem, hn0, h, bnd, w64]
  · simp [F108_flashmake_Below, hn, grem, hn0, h, bnd]
/-- A stream of numbers that may still be drawn from. -/
def SOk (s : T_flashmake_Stream) (k : Int) : Prop := s.L.length ≤ 4611686018427387904 ∧ 0 ≤ s.at_ ∧ s.at_ ≤ k
theorem next_is (s : T_flashmake_Stream) (n k : Int) (hs : SOk s k) (hk : k ≤ 4611686018427387904) (h1 : 1 ≤ n) (h2 : n ≤ 4611686018427387904) :
    ∃ r, F58_flashmake_Stream_Next s n = some (⟨s.L, s.at_ + 1⟩, r) ∧ 0 ≤ r ∧ r < n := by
  obtain ⟨hl, ha, hb⟩ := hs
  have e1 : IntKind.wrap .i64 (s.at_ + 1) = s.at_ + 1 := w64 (by omega) (by omega)
  have hm : ∀ x : Int, 0 ≤ x % n ∧ x % n < n := fun x => ⟨Int.emod_nonneg _ (by omega), Int.emod_lt_of_pos _ (by omega)⟩
  unfold F58_flashmake_Stream_Next
  rw [e1]
  by_cases h0 : s.L.length = 0
  · have hz : (s.L.length : Int) = 0 := by omega
    simp [hz, below_is _ _ h1 h2]
    exact hm _
  · have hz : ¬ ((s.L.length : Int) = 0) := by omega
    have e2 : IntKind.wrap .i64 (s.at_ + 1 - 1) = s.at_ := by rw [w64] <;> omega
    have hi : 0 ≤ s.at_.tmod s.L.length ∧ s.at_.tmod s.L.length < s.L.length := ⟨Int.tmod_nonneg _ ha, Int.tmod_lt_of_pos _ (by omega)⟩
    obtain ⟨x, hx, _⟩ := idx_of hi.1 hi.2
    rw [e2]
    have hne : s.L ≠ [] := by rintro q; simp [q] at h0
    have hb : ((s.L.length : Int) == 0) = false := by simp [hne]
    simp [hb, hne, grem, gquo, hx, below_is _ _ h1 h2, below_is _ 1073741824 (by omega) (by omega)]
    exact hm _
theorem range_is (s : T_flashmake_Stream) (lo hi k : Int) (hs : SOk s k) (hk : k ≤ 4611686018427387904) (h1 : lo ≤ hi) (h2 : -1000000000000 ≤ lo) (h3 : hi ≤ 1000000000000) :
    ∃ r, F15_flashmake_Stream_Range s lo hi = some (⟨s.L, s.at_ + 1⟩, r) ∧ lo ≤ r ∧ r ≤ hi := by
  obtain ⟨r, e, r1, r2⟩ := next_is s (hi - lo + 1) k hs hk (by omega) (by omega)
  have hlt : ¬ hi < lo := by omega
  refine ⟨lo + r, ?_, by omega, by omega⟩
  simp (disch := omega) [F15_flashmake_Stream_Range, hlt, w64, e, bnd]

theorem SOk.up {s : T_flashmake_Stream} {k m : Int} (h : SOk s k) (e : k ≤ m) : SOk s m := ⟨h.1, h.2.1, Int.le_trans h.2.2 e⟩
theorem SOk.one {s : T_flashmake_Stream} {k : Int} (h : SOk s k) : SOk ⟨s.L, s.at_ + 1⟩ (k + 1) := by
  obtain ⟨a, b, c⟩ := h
  exact ⟨a, by (try simp only []); omega, by (try simp only []); omega⟩
theorem pick_is (s : T_flashmake_Stream) (a b k : Int) (hs : SOk s k) (hk : k ≤ 1000) : ∃ r, F36_flashmake_Stream_Pick s [a, b] = some (⟨s.L, s.at_ + 1⟩, r) ∧ (r = a ∨ r = b) := by
  obtain ⟨r, e, r1, r2⟩ := next_is s 2 k hs (by omega) (by omega) (by omega)
  unfold F36_flashmake_Stream_Pick
  have : ((List.length [a, b] : Nat) : Int) = 2 := rfl
  rw [this, e]
  rcases (by omega : r = 0 ∨ r = 1) with rfl | rfl
  · exact ⟨a, rfl, .inl rfl⟩
  · exact ⟨b, rfl, .inr rfl⟩
theorem isSample_is (n : Int) (h : -32768 ≤ n ∧ n ≤ 32767) : F72_media_isSample n = some true := by
  simp [F72_media_isSample, within_is, h.1, h.2]
def Good (x : List Int) : Prop := ∀ a ∈ x, -32768 ≤ a ∧ a ≤ 32767
theorem check_is (x : List Int) (hl : x.length ≤ 20000) (h : Good x) : F33_media_CheckSamples x = some 0 := by
  have hn : ¬ ((x.length : Int) > 20000) := by omega
  have := loop_for (N := x.length) (step := fun s : Int => F33_media_CheckSamples_l0 x s) (fun k => (k : Int)) (.inl ()) (fun k hk => by
    have hk' : (k : Int) < x.length := by omega
    have hg := isSample_is x[k] (h _ (List.getElem_mem hk))
    simp (disch := omega) [F33_media_CheckSamples_l0, hk, idx_at hk, hg, w64]) (by simp [F33_media_CheckSamples_l0])
  simp only [Int.natCast_zero] at this
  simp [F33_media_CheckSamples, hn, this, lret]

/-! The tones. -/
def flr (x : Int) : Int := (F153_flashref2_floor x 16384).getD 0
theorem flr_is (x : Int) : F153_flashref2_floor x 16384 = some (flr x) := by
  unfold flr
  have : ∃ v, F153_flashref2_floor x 16384 = some v := by
    unfold F153_flashref2_floor
    simp only [grem, gquo, show ¬ ((16384 : Int) = 0) from by decide, if_false, Option.bind_some, bnd]
    cases decide (x.tmod 16384 < 0) <;> exact ⟨_, rfl⟩
  obtain ⟨v, e⟩ := this
  rw [e]; rfl
def nx (c a b : Int) : Int := IntKind.wrap .i64 (flr (IntKind.wrap .i64 (c * b)) - a)
def humA (c : Int) : Nat → Int → Int → List Int
  | 0, _, _ => []
  | n + 1, a, b => a :: humA c n b (nx c a b)
def nth (c : Int) : Nat → Int → Int → Int
  | 0, a, _ => a
  | n + 1, a, b => nth c n b (nx c a b)
theorem humA_len (c : Int) : ∀ (n : Nat) (a b : Int), (humA c n a b).length = n
  | 0, _, _ => rfl
  | n + 1, a, b => by simp [humA, humA_len c n]
theorem humA_succ (c : Int) : ∀ (n : Nat) (a b : Int), humA c (n + 1) a b = humA c n a b ++ [nth c n a b]
  | 0, _, _ => rfl
  | n + 1, a, b => by rw [humA, humA_succ c n, humA, nth]; rfl
theorem humA_get (c : Int) : ∀ (n k : Nat) (a b : Int), k < n → (humA c n a b)[k]? = some (nth c k a b)
  | 0, _, _, _, h => absurd h (by omega)
  | n + 1, 0, _, _, _ => rfl
  | n + 1, k + 1, a, b, h => by rw [humA, nth, List.getElem?_cons_succ, humA_get c n k b _ (by omega)]
theorem nth_rec (c : Int) : ∀ (k : Nat) (a b : Int), nth c (k + 2) a b = nx c (nth c k a b) (nth c (k + 1) a b)
  | 0, _, _ => rfl
  | k + 1, a, b => nth_rec c k b (nx c a b)
def humL (c : Int) (n : Nat) : List Int := humA c n 0 (IntKind.wrap .i64 (c.tdiv 8))
theorem hum_is (c : Int) (n : Nat) (hn : n ≤ 100000) : F121_flashref2_hum c n = some (humL c n) := by
  have := loop_for (N := n) (step := fun s : List Int × Int => F121_flashref2_hum_l0 c n s.1 s.2) (fun k => (humL c k, (k : Int))) (humL c n) (fun k hk => by
    have hk' : (k : Int) < n := by omega
    have hl : (humL c k).length = k := humA_len _ _ _ _
    have ap : ∀ x : Int, app 8 (humL c k) [x] = some (humL c k ++ [x]) := fun x => app_of (by simp [hl]; omega) (by simp [hl]; omega)
    have w1 : IntKind.wrap .i64 ((k : Int) + 1) = ((k + 1 : Nat) : Int) := by rw [w64 (by omega) (by omega)]; omega
    simp only [F121_flashref2_hum_l0, hk', decide_true, cond_true, bnd, ap, Option.bind_some, w1]
    match k, hl, hk with
    | 0, _, _ => rfl
    | 1, _, _ => rfl
    | k + 2, hl, hk =>
      have c0 : (((k + 2 : Nat) : Int) == 0) = false := by simp; omega
      have c1 : (((k + 2 : Nat) : Int) == 1) = false := by simp; omega
      have i1 : idx (humL c (k + 2)) (IntKind.wrap .i64 (((k + 2 : Nat) : Int) - 1)) = some (nth c (k + 1) 0 (IntKind.wrap .i64 (c.tdiv 8))) := by
        rw [w64 (by omega) (by omega), show ((k + 2 : Nat) : Int) - 1 = ((k + 1 : Nat) : Int) from by omega, idx_nat]; exact humA_get _ _ _ _ _ (by omega)
      have i2 : idx (humL c (k + 2)) (IntKind.wrap .i64 (((k + 2 : Nat) : Int) - 2)) = some (nth c k 0 (IntKind.wrap .i64 (c.tdiv 8))) := by
        rw [w64 (by omega) (by omega), show ((k + 2 : Nat) : Int) - 2 = ((k : Nat) : Int) from by omega, idx_nat]; exact humA_get _ _ _ _ _ (by omega)
      simp only [c0, c1, cond_false, i1, i2, Option.bind_some, flr_is]
      have := humA_succ c (k + 2) 0 (IntKind.wrap .i64 (c.tdiv 8))
      rw [nth_rec] at this
      rw [show humL c (k + 2 + 1) = humL c (k + 2) ++ [nx c (nth c k 0 (IntKind.wrap .i64 (c.tdiv 8))) (nth c (k + 1) 0 (IntKind.wrap .i64 (c.tdiv 8)))] from this]
      rfl) (by simp [F121_flashref2_hum_l0])
  simp only [Int.natCast_zero] at this
  unfold F121_flashref2_hum
  rw [show (([] : List Int), (0 : Int)) = (humL c 0, 0) from rfl, this]
  rfl
def wadd (x y : Int) : Int := IntKind.wrap .i64 (x + y)
def zl : Nat → List Int → List Int → List Int
  | 0, a, _ => a
  | k + 1, x :: a, y :: b => wadd x y :: zl k a b
  | _ + 1, a, _ => a
theorem zl_len : ∀ (k : Nat) (a b : List Int), (zl k a b).length = a.length
  | 0, _, _ => rfl
  | k + 1, x :: a, y :: b => by simp [zl, zl_len k]
  | _ + 1, [], _ => by simp [zl]
  | _ + 1, _ :: _, [] => by simp [zl]
theorem zl_get : ∀ (k : Nat) (a b : List Int), a.length = b.length → (zl k a b)[k]? = a[k]?
  | 0, _, _, _ => rfl
  | k + 1, x :: a, y :: b, h => by simp [zl]; exact zl_get k a b (by simpa using h)
  | _ + 1, [], _, _ => by simp [zl]
  | _ + 1, _ :: _, [], h => by simp at h
theorem zl_set : ∀ (k : Nat) (a b : List Int) (x y : Int), a.length = b.length → a[k]? = some x → b[k]? = some y → (zl k a b).set k (wadd x y) = zl (k + 1) a b
  | 0, _ :: _, _ :: _, x, y, _, h1, h2 => by simp at h1 h2; subst h1; subst h2; simp [zl]
  | k + 1, _ :: a, _ :: b, x, y, h, h1, h2 => by simp [zl]; exact zl_set k a b x y (by simpa using h) (by simpa using h1) (by simpa using h2)
  | 0, [], _, _, _, _, h1, _ => by simp at h1
  | 0, _ :: _, [], _, _, h, _, _ => by simp at h
  | _ + 1, [], _, _, _, _, h1, _ => by simp at h1
  | _ + 1, _ :: _, [], _, _, h, _, _ => by simp at h
theorem zl_all : ∀ (a b : List Int), a.length = b.length → zl a.length a b = List.zipWith wadd a b
  | [], [], _ => rfl
  | x :: a, y :: b, h => by simp [zl]; exact zl_all a b (by simpa using h)
  | [], _ :: _, h => by simp at h
  | _ :: _, [], h => by simp at h
def rowN : List Int := [27980, 26956, 25701, 24219]
def colN : List Int := [19073, 16325, 13085, 9315]
def pad : List UInt8 := [49, 50, 51, 65, 52, 53, 54, 66, 55, 56, 57, 67, 42, 48, 35, 68]
def toneL (k : Nat) (n : Nat) : List Int := List.zipWith wadd (humL (rowN.getD (k / 4) 0) n) (humL (colN.getD (k % 4) 0) n)
theorem pad_ix : (List.range 16).all (fun k => F120_strings_IndexByte pad ((pad.getD k 0).toNat : Int) == some (k : Int)) = true := by kernel_rfl
theorem tone_is (k n : Nat) (hk : k < 16) (hn : n ≤ 100000) : F75_flashref2_ToneOf ((pad.getD k 0).toNat : Int) n = some (toneL k n, true) := by
  have h1 := List.all_eq_true.1 pad_ix k (List.mem_range.2 hk)
  have h1 : F120_strings_IndexByte pad ((pad.getD k 0).toNat : Int) = some (k : Int) := by simpa using h1
  have hq : IntKind.wrap .i64 (Int.tdiv (k : Int) 4) = ((k / 4 : Nat) : Int) := by rw [Int.tdiv_eq_ediv_of_nonneg (by omega), w64 (by omega) (by omega)]; omega
  have hr : Int.tmod (k : Int) 4 = ((k % 4 : Nat) : Int) := by rw [Int.tmod_eq_emod_of_nonneg (by omega)]; omega
  have i1 : idx rowN ((k / 4 : Nat) : Int) = some (rowN.getD (k / 4) 0) := by
    rw [idx_nat, List.getD_eq_getElem?_getD]
    have : k / 4 < rowN.length := by simp [rowN]; omega
    rw [List.getElem?_eq_getElem this]; rfl
  have i2 : idx colN ((k % 4 : Nat) : Int) = some (colN.getD (k % 4) 0) := by
    rw [idx_nat, List.getD_eq_getElem?_getD]
    have : k % 4 < colN.length := by simp [colN]; omega
    rw [List.getElem?_eq_getElem this]; rfl
  generalize hr1 : rowN.getD (k / 4) 0 = r at i1
  generalize hc1 : colN.getD (k % 4) 0 = c at i2
  have e1 : (humL r n).length = n := humA_len _ _ _ _
  have e2 : (humL c n).length = n := humA_len _ _ _ _
  have lp := loop_for (N := n) (step := fun s : List Int × Int => F75_flashref2_ToneOf_l0 (humL r n) (humL c n) s.1 s.2) (fun j => (zl j (humL r n) (humL c n), (j : Int))) (List.zipWith wadd (humL r n) (humL c n)) (fun j hj => by
    have hj' : (j : Int) < ((humL r n).length : Int) := by omega
    have g1 : (humL r n)[j]? = some _ := List.getElem?_eq_getElem (by omega)
    have g2 : (humL c n)[j]? = some _ := List.getElem?_eq_getElem (by omega)
    have z1 := zl_get j (humL r n) (humL c n) (by omega)
    have z2 := zl_set j (humL r n) (humL c n) _ _ (by omega) g1 g2
    simp only [F75_flashref2_ToneOf_l0, hj', decide_true, cond_true, idx_nat, z1, g1, g2, Option.bind_some, bnd, Int.toNat_natCast]
    rw [w64 (n := (j : Int) + 1) (by omega) (by omega)]
    rw [← z2]
    rfl) (by
      have hj' : ¬ ((n : Nat) : Int) < ((humL r n).length : Int) := by omega
      have za := zl_all (humL r n) (humL c n) (by omega)
      rw [e1] at za
      simp only [F75_flashref2_ToneOf_l0, hj', decide_false, cond_false, za])
  have hneg : ¬ ((k : Int) < 0) := by omega
  unfold F75_flashref2_ToneOf
  rw [show ([49, 50, 51, 65, 52, 53, 54, 66, 55, 56, 57, 67, 42, 48, 35, 68] : List UInt8) = pad from rfl, h1]
  simp only [Option.bind_some, hneg, decide_false, cond_false, F122_flashref2_rowNumbers, F123_flashref2_columnNumbers]
  rw [hq, hr, show ([27980, 26956, 25701, 24219] : List Int) = rowN from rfl, show ([19073, 16325, 13085, 9315] : List Int) = colN from rfl, i1, i2]
  simp only [Option.bind_some, hum_is _ n hn]
  rw [show (humL r n, (0 : Int)) = (zl 0 (humL r n) (humL c n), ((0 : Nat) : Int)) from rfl, lp]
  simp only [Option.bind_some, toneL, hr1, hc1]
end Go.Proofs.YtcbepglkfglclaaDoor
