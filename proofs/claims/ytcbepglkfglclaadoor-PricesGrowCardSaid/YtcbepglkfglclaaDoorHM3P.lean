/-
  PricesGrow: what is drawn.
-/
import Derived.Test.YtcbepglkfglclaaDoorHM3Aa
import Derived.Test.YtcbepglkfglclaaDoorHAbsP1
namespace Go.Proofs.YtcbepglkfglclaaDoor
open Go Go.Abs
set_option maxRecDepth 100000
set_option maxHeartbeats 1000000

theorem below_is (x n : Int) (h1 : 1 ≤ n) (h2 : n ≤ 4611686018427387904) : F108_flashmake_Below x n = some (x % n) := by
  have hn : ¬ n < 1 := by omega
  have hn0 : n ≠ 0 := by omega
  have hlt : x.tmod n < n := Int.tmod_lt_of_pos _ (by omega)
  have hgt : -n < x.tmod n := by
    have := Int.tmod_lt_of_pos (-x) (b := n) (by omega)
    rw [Int.neg_tmod] at this; omega
  rw [emod_tmod x n h1]
  by_cases h : x.tmod n < 0
  · simp (disch := omega) [F108_flashmake_Below, hn, grem, hn0, h, bnd, w64]
  · simp [F108_flashmake_Below, hn, grem, hn0, h, bnd]
/-- A stream of numbers that may still be drawn from. -/
def SOk (s : T_flashmake_Stream) (k : Int) : Prop := s.L.length ≤ 4611686018427387904 ∧ 0 ≤ s.at_ ∧ s.at_ ≤ k
theorem next_is (s : T_flashmake_Stream) (n k : Int) (hs : SOk s k) (hk : k ≤ 4611686018427387904) (h1 : 1 ≤ n) (h2 : n ≤ 4611686018427387904) :
    ∃ r, F58_flashmake_Stream_Next s n = some (⟨s.L, s.at_ + 1⟩, r) ∧ 0 ≤ r ∧ r < n := by
  obtain ⟨hl, ha, hb⟩ := hs
  have e1 : IntKind.wrap .i64 (s.at_ + 1) = s.at_ + 1 := w64 (by omega) (by omega)
  have hm : ∀ x : Int, 0 ≤ x % n ∧ x % n < n := fun x => ⟨Int.emod_nonneg _ (by omega), Int.emod_lt_of_pos _ (by omega)⟩
  unfold F58_flashmake_Stream_Next
  rw [e1]
  by_cases h0 : s.L.length = 0
  · have hz : (s.L.length : Int) = 0 := by omega
    simp [hz, below_is _ _ h1 h2]
    exact hm _
  · have hz : ¬ ((s.L.length : Int) = 0) := by omega
    have e2 : IntKind.wrap .i64 (s.at_ + 1 - 1) = s.at_ := by rw [w64] <;> omega
    have hi : 0 ≤ s.at_.tmod s.L.length ∧ s.at_.tmod s.L.length < s.L.length := ⟨Int.tmod_nonneg _ ha, Int.tmod_lt_of_pos _ (by omega)⟩
    obtain ⟨x, hx, _⟩ := idx_of hi.1 hi.2
    rw [e2]
    have hne : s.L ≠ [] := by rintro q; simp [q] at h0
    have hb : ((s.L.length : Int) == 0) = false := by simp [hne]
    simp [hb, hne, grem, gquo, hx, below_is _ _ h1 h2, below_is _ 1073741824 (by omega) (by omega)]
    exact hm _
theorem range_is (s : T_flashmake_Stream) (lo hi k : Int) (hs : SOk s k) (hk : k ≤ 4611686018427387904) (h1 : lo ≤ hi) (h2 : -1000000000000 ≤ lo) (h3 : hi ≤ 1000000000000) :
    ∃ r, F15_flashmake_Stream_Range s lo hi = some (⟨s.L, s.at_ + 1⟩, r) ∧ lo ≤ r ∧ r ≤ hi := by
  obtain ⟨r, e, r1, r2⟩ := next_is s (hi - lo + 1) k hs hk (by omega) (by omega)
  have hlt : ¬ hi < lo := by omega
  refine ⟨lo + r, ?_, by omega, by omega⟩
  simp (disch := omega) [F15_flashmake_Stream_Range, hlt, w64, e, bnd]

theorem SOk.up {s : T_flashmake_Stream} {k m : Int} (h : SOk s k) (e : k ≤ m) : SOk s m := ⟨h.1, h.2.1, Int.le_trans h.2.2 e⟩
theorem SOk.one {s : T_flashmake_Stream} {k : Int} (h : SOk s k) : SOk ⟨s.L, s.at_ + 1⟩ (k + 1) := by
  obtain ⟨a, b, c⟩ := h
  exact ⟨a, by (try simp only []); omega, by (try simp only []); omega⟩
theorem pick_in (s : T_flashmake_Stream) (l : List Int) (k : Int) (hs : SOk s k) (hk : k ≤ 1000000) (hl : 0 < l.length) (hl2 : l.length ≤ 1000) : ∃ r, F36_flashmake_Stream_Pick s l = some (⟨s.L, s.at_ + 1⟩, r) ∧ r ∈ l := by
  obtain ⟨r, e, r1, r2⟩ := next_is s l.length k hs (by omega) (by omega) (by omega)
  obtain ⟨x, hx, hm⟩ := idx_of r1 r2
  exact ⟨x, by simp [F36_flashmake_Stream_Pick, e, hx], hm⟩
theorem flip_is (s : T_flashmake_Stream) (n k : Int) (hs : SOk s k) (hk : k ≤ 1000000) (h1 : 1 ≤ n) (h2 : n ≤ 1000) : ∃ b, F59_flashmake_Stream_Flip s n = some (⟨s.L, s.at_ + 1⟩, b) := by
  obtain ⟨r, e, r1, r2⟩ := next_is s n k hs (by omega) (by omega) (by omega)
  exact ⟨r == 0, by simp [F59_flashmake_Stream_Flip, e, bnd]⟩

theorem some_in (s : T_flashmake_Stream) (l : List (List UInt8)) (k : Int) (hs : SOk s k) (hk : k ≤ 1000000) (hl : 0 < l.length) (hl2 : l.length ≤ 1000) : ∃ r, F14_flashmake_Stream_Some s l = some (⟨s.L, s.at_ + 1⟩, r) ∧ r ∈ l := by
  obtain ⟨r, e, r1, r2⟩ := next_is s l.length k hs (by omega) (by omega) (by omega)
  obtain ⟨x, hx, hm⟩ := idx_of r1 r2
  exact ⟨x, by simp [F14_flashmake_Stream_Some, e, hx, bnd], hm⟩

/-- The prefixes. -/
def pxs : List (List UInt8) := [[], [43, 52], [43, 52, 57], [43, 52, 57, 51, 48], [43, 53]]
def PX (i : Nat) : List UInt8 := pxs.getD i []
def nms : List (List UInt8) := [[104, 111, 109, 101], [110, 101, 97, 114], [102, 97, 114]]
def inss : List (List (List UInt8)) := [[], [[104, 111, 109, 101]], [[104, 111, 109, 101], [110, 101, 97, 114]]]
def num4 : List (List UInt8) := [[43, 52, 57, 51, 48, 49], [43, 52, 51, 49, 50], [43, 53, 53, 49, 50], [43, 49, 50, 48, 48]]
def CGood (c : T_api_Class) : Prop := c.Name ∈ nms ∧ 0 ≤ c.Setup ∧ c.Setup ≤ 1000 ∧ 0 ≤ c.First ∧ c.First ≤ 60000 ∧ 1 ≤ c.Step ∧ c.Step ≤ 60000 ∧ 0 ≤ c.Rate ∧ c.Rate ≤ 500
/-- The classes have prefixes that rise. -/
def Srt (cs : List T_api_Class) (top : Nat) : Prop := ∃ js : List Nat, js.length = cs.length ∧ (∀ m (h : m < cs.length), ∃ j, js[m]? = some j ∧ cs[m].Prefix = PX j) ∧ (∀ j ∈ js, j < top) ∧ js.Pairwise (· < ·)
def TGood (t : T_api_Tariff) : Prop := t.Classes.length ≤ 5 ∧ (∀ c ∈ t.Classes, CGood c) ∧ Srt t.Classes 5 ∧ 0 ≤ t.Free ∧ t.Free ≤ 90000 ∧ t.Inside ∈ inss

theorem Srt.add {cs : List T_api_Class} {n : Nat} (h : Srt cs n) {c : T_api_Class} (hc : c.Prefix = PX n) : Srt (cs ++ [c]) (n + 1) := by
  obtain ⟨js, h1, h2, h3, h4⟩ := h
  refine ⟨js ++ [n], by simp [h1], fun m hm => ?_, fun j hj => ?_, ?_⟩
  · simp at hm
    by_cases e : m < cs.length
    · obtain ⟨j, p1, p2⟩ := h2 m e
      exact ⟨j, by rw [List.getElem?_append_left (by omega), p1], by rw [List.getElem_append_left e, p2]⟩
    · have e2 : m = cs.length := by omega
      subst e2
      exact ⟨n, by simp [← h1], by simp [hc]⟩
  · rcases List.mem_append.1 hj with hj | hj
    · have := h3 j hj; omega
    · simp at hj; omega
  · rw [List.pairwise_append]
    exact ⟨h4, by simp, fun x hx y hy => by simp at hy; have := h3 x hx; omega⟩
theorem Srt.up {cs : List T_api_Class} {n m : Nat} (h : Srt cs n) (e : n ≤ m) : Srt cs m := by
  obtain ⟨js, h1, h2, h3, h4⟩ := h
  exact ⟨js, h1, h2, fun j hj => Nat.lt_of_lt_of_le (h3 j hj) e, h4⟩

theorem tariff_is (s0 : T_flashmake_Stream) (k : Int) (hs : SOk s0 k) (hk : k ≤ 100) : ∃ s' t, F13_flashmake_Stream_RightTariff s0 = some (s', t) ∧ TGood t ∧ SOk s' (k + 40) := by
  obtain ⟨fr, e1, fr1⟩ := pick_in s0 [0, 0, 60000, 90000] _ hs (by omega) (by simp) (by simp)
  have fr2 : 0 ≤ fr ∧ fr ≤ 90000 := by simp at fr1; omega
  obtain ⟨u, e2, u1, u2⟩ := next_is ⟨s0.L, s0.at_ + 1⟩ 3 _ hs.one (by omega) (by omega) (by omega)
  obtain ⟨ins, hins, hinm⟩ := idx_of (l := inss) u1 (by simpa [inss] using u2)
  obtain ⟨e, h1, h2⟩ := loopO_ind (step := fun s : Int × T_api_Tariff × T_flashmake_Stream => F13_flashmake_Stream_RightTariff_l0 s.1 s.2.1 s.2.2)
    (fun q => (∃ n : Nat, q.1 = (n : Int) ∧ n ≤ 5 ∧ (q.2.1.Classes.length : Int) ≤ n ∧ Srt q.2.1.Classes n) ∧ (∀ c ∈ q.2.1.Classes, CGood c) ∧ q.2.1.Free = fr ∧ q.2.1.Inside = ins ∧ SOk q.2.2 (k + 2 + 6 * q.1))
    (fun e => TGood e.1 ∧ SOk e.2 (k + 40)) (fun q => (5 - q.1).toNat) (fun q hq => by
      obtain ⟨n0, ⟨cs, f0, i0⟩, s⟩ := q
      obtain ⟨⟨n, rfl, q1, q2, q3⟩, q4, q5, q6, q7⟩ := hq
      simp only [] at q1 q2 q3 q4 q5 q6 q7
      subst q5; subst q6
      simp only [F13_flashmake_Stream_RightTariff_l0]
      have hlen : ((List.length (([([] : List UInt8), ([43, 52] : List UInt8), ([43, 52, 57] : List UInt8), ([43, 52, 57, 51, 48] : List UInt8), ([43, 53] : List UInt8)] : List (List UInt8))) : Nat) : Int) = 5 := rfl
      rw [hlen]
      by_cases hlt : (n : Int) < 5
      · have hpx : idx ([([] : List UInt8), ([43, 52] : List UInt8), ([43, 52, 57] : List UInt8), ([43, 52, 57, 51, 48] : List UInt8), ([43, 53] : List UInt8)] : List (List UInt8)) (n : Int) = some (PX n) := by
          rw [idx_nat]
          rcases (by omega : n = 0 ∨ n = 1 ∨ n = 2 ∨ n = 3 ∨ n = 4) with rfl | rfl | rfl | rfl | rfl <;> rfl
        obtain ⟨f1, g1⟩ := flip_is s 3 _ q7 (by omega) (by omega) (by omega)
        cases f1 with
        | true =>
          refine .inr ⟨((n : Int) + 1, ⟨cs, f0, i0⟩, ⟨s.L, s.at_ + 1⟩), ?_, ⟨⟨n + 1, by (try simp only []); omega, by omega, by (try simp only []); omega, q3.up (by omega)⟩, q4, rfl, rfl, q7.one.up (by (try simp only []); omega)⟩, by (try simp only []); omega⟩
          simp only [hlt, decide_true, cond_true, hpx, Option.bind_some, g1]
          rw [w64 (by omega) (by omega)]
        | false =>
          obtain ⟨nm, g2, nm1⟩ := some_in ⟨s.L, s.at_ + 1⟩ nms _ q7.one (by omega) (by simp [nms]) (by simp [nms])
          obtain ⟨a, g3, a1⟩ := pick_in ⟨s.L, s.at_ + 1 + 1⟩ [0, 0, 1000, 999] _ q7.one.one (by omega) (by simp) (by simp)
          obtain ⟨b, g4, b1⟩ := pick_in ⟨s.L, s.at_ + 1 + 1 + 1⟩ [0, 0, 60000] _ q7.one.one.one (by omega) (by simp) (by simp)
          obtain ⟨c, g5, c1⟩ := pick_in ⟨s.L, s.at_ + 1 + 1 + 1 + 1⟩ [1, 1000, 60000] _ q7.one.one.one.one (by omega) (by simp) (by simp)
          obtain ⟨d, g6, d1⟩ := pick_in ⟨s.L, s.at_ + 1 + 1 + 1 + 1 + 1⟩ [0, 1, 10, 500] _ q7.one.one.one.one.one (by omega) (by simp) (by simp)
          have a2 : 0 ≤ a ∧ a ≤ 1000 := by simp at a1; omega
          have b2 : 0 ≤ b ∧ b ≤ 60000 := by simp at b1; omega
          have c2 : 1 ≤ c ∧ c ≤ 60000 := by simp at c1; omega
          have d2 : 0 ≤ d ∧ d ≤ 500 := by simp at d1; omega
          refine .inr ⟨((n : Int) + 1, ⟨cs ++ [⟨PX n, nm, a, b, c, d⟩], f0, i0⟩, ⟨s.L, s.at_ + 1 + 1 + 1 + 1 + 1 + 1⟩), ?_, ⟨⟨n + 1, by (try simp only []); omega, by omega, by simp; omega, q3.add rfl⟩, fun x hx => ?_, rfl, rfl, q7.one.one.one.one.one.one.up (by (try simp only []); omega)⟩, by (try simp only []); omega⟩
          · simp only [nms] at g2
            simp only [hlt, decide_true, cond_true, cond_false, hpx, Option.bind_some, g1, g2, g3, g4, g5, g6]
            rw [app_of (by simp; omega) (by simp; omega), w64 (by omega) (by omega)]
            rfl
          · rcases List.mem_append.1 hx with hx | hx
            · exact q4 x hx
            · simp at hx; subst hx
              exact ⟨nm1, a2.1, a2.2, b2.1, b2.2, c2.1, c2.2, d2.1, d2.2⟩
      · refine .inl ⟨(⟨cs, f0, i0⟩, s), by simp [hlt], ⟨by (try simp only []); omega, q4, q3.up (by omega), fr2.1, fr2.2, hinm⟩, q7.up (by (try simp only []); omega)⟩) (0, ⟨[], fr, ins⟩, ⟨s0.L, s0.at_ + 1 + 1⟩)
    ⟨⟨0, rfl, by omega, by simp, ⟨[], rfl, fun m h => by simp at h, by simp, by simp⟩⟩, by simp, rfl, rfl, hs.one.one.up (by (try simp only []); omega)⟩
  obtain ⟨t, s'⟩ := e
  refine ⟨s', t, ?_, h2.1, h2.2⟩
  simp only [inss] at hins
  simp only [F13_flashmake_Stream_RightTariff, e1, Option.bind_some, e2, hins, h1]

end Go.Proofs.YtcbepglkfglclaaDoor
