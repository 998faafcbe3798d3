/-
  HoursTurn: what is drawn.
-/
import Derived.Test.YtcbepglkfglclaaDoorHM11Aa
import Derived.Test.YtcbepglkfglclaaDoorHAbsP1
namespace Go.Proofs.YtcbepglkfglclaaDoor
open Go Go.Abs
set_option maxRecDepth 100000
set_option maxHeartbeats 1000000

theorem below_is (x n : Int) (h1 : 1 ≤ n) (h2 : n ≤ 4611686018427387904) : F108_flashmake_Below x n = some (x % n) := by
  have hn : ¬ n < 1 := by omega
  have hn0 : n ≠ 0 := by omega
  have hlt : x.tmod n < n := Int.tmod_lt_of_pos _ (by omega)
  have hgt : -n < x.tmod n := by
    have := Int.tmod_lt_of_pos (-x) (b := n) (by omega)
    rw [Int.neg_tmod] at this; omega
  rw [emod_tmod x n h1]
  by_cases h : x.tmod n < 0
  · simp (disch := omega) [F108_flashmake_Below, hn, grem, hn0, h, bnd, w64]
  · simp [F108_flashmake_Below, hn, grem, hn0, h, bnd]
/-- A stream of numbers that may still be drawn from. -/
def SOk (s : T_flashmake_Stream) (k : Int) : Prop := s.L.length ≤ 4611686018427387904 ∧ 0 ≤ s.at_ ∧ s.at_ ≤ k
theorem next_is (s : T_flashmake_Stream) (n k : Int) (hs : SOk s k) (hk : k ≤ 4611686018427387904) (h1 : 1 ≤ n) (h2 : n ≤ 4611686018427387904) :
    ∃ r, F58_flashmake_Stream_Next s n = some (⟨s.L, s.at_ + 1⟩, r) ∧ 0 ≤ r ∧ r < n := by
  obtain ⟨hl, ha, hb⟩ := hs
  have e1 : IntKind.wrap .i64 (s.at_ + 1) = s.at_ + 1 := w64 (by omega) (by omega)
  have hm : ∀ x : Int, 0 ≤ x % n ∧ x % n < n := fun x => ⟨Int.emod_nonneg _ (by omega), Int.emod_lt_of_pos _ (by omega)⟩
  unfold F58_flashmake_Stream_Next
  rw [e1]
  by_cases h0 : s.L.length = 0
  · have hz : (s.L.length : Int) = 0 := by omega
    simp [hz, below_is _ _ h1 h2]
    exact hm _
  · have hz : ¬ ((s.L.length : Int) = 0) := by omega
    have e2 : IntKind.wrap .i64 (s.at_ + 1 - 1) = s.at_ := by rw [w64] <;> omega
    have hi : 0 ≤ s.at_.tmod s.L.length ∧ s.at_.tmod s.L.length < s.L.length := ⟨Int.tmod_nonneg _ ha, Int.tmod_lt_of_pos _ (by omega)⟩
    obtain ⟨x, hx, _⟩ := idx_of hi.1 hi.2
    rw [e2]
    have hne : s.L ≠ [] := by rintro q; simp [q] at h0
    have hb : ((s.L.length : Int) == 0) = false := by simp [hne]
    simp [hb, hne, grem, gquo, hx, below_is _ _ h1 h2, below_is _ 1073741824 (by omega) (by omega)]
    exact hm _
theorem range_is (s : T_flashmake_Stream) (lo hi k : Int) (hs : SOk s k) (hk : k ≤ 4611686018427387904) (h1 : lo ≤ hi) (h2 : -1000000000000 ≤ lo) (h3 : hi ≤ 1000000000000) :
    ∃ r, F15_flashmake_Stream_Range s lo hi = some (⟨s.L, s.at_ + 1⟩, r) ∧ lo ≤ r ∧ r ≤ hi := by
  obtain ⟨r, e, r1, r2⟩ := next_is s (hi - lo + 1) k hs hk (by omega) (by omega)
  have hlt : ¬ hi < lo := by omega
  refine ⟨lo + r, ?_, by omega, by omega⟩
  simp (disch := omega) [F15_flashmake_Stream_Range, hlt, w64, e, bnd]

theorem SOk.up {s : T_flashmake_Stream} {k m : Int} (h : SOk s k) (e : k ≤ m) : SOk s m := ⟨h.1, h.2.1, Int.le_trans h.2.2 e⟩
theorem SOk.one {s : T_flashmake_Stream} {k : Int} (h : SOk s k) : SOk ⟨s.L, s.at_ + 1⟩ (k + 1) := by
  obtain ⟨a, b, c⟩ := h
  exact ⟨a, by (try simp only []); omega, by (try simp only []); omega⟩
theorem pick_in (s : T_flashmake_Stream) (l : List Int) (k : Int) (hs : SOk s k) (hk : k ≤ 1000000) (hl : 0 < l.length) (hl2 : l.length ≤ 1000) : ∃ r, F36_flashmake_Stream_Pick s l = some (⟨s.L, s.at_ + 1⟩, r) ∧ r ∈ l := by
  obtain ⟨r, e, r1, r2⟩ := next_is s l.length k hs (by omega) (by omega) (by omega)
  obtain ⟨x, hx, hm⟩ := idx_of r1 r2
  exact ⟨x, by simp [F36_flashmake_Stream_Pick, e, hx], hm⟩
theorem flip_is (s : T_flashmake_Stream) (n k : Int) (hs : SOk s k) (hk : k ≤ 1000000) (h1 : 1 ≤ n) (h2 : n ≤ 1000) : ∃ b, F59_flashmake_Stream_Flip s n = some (⟨s.L, s.at_ + 1⟩, b) := by
  obtain ⟨r, e, r1, r2⟩ := next_is s n k hs (by omega) (by omega) (by omega)
  exact ⟨r == 0, by simp [F59_flashmake_Stream_Flip, e, bnd]⟩

/-- Hours that are right. -/
def RowOk (r : T_api_Row) : Prop := 1 ≤ r.Days ∧ r.Days ≤ 127 ∧ 0 ≤ r.From ∧ r.From < r.To ∧ r.To ≤ 1440
def HolOk (d : T_api_Holiday) : Prop := 0 ≤ d.Day ∧ d.Day ≤ 4000 ∧ (d.From = 0 ∧ d.To = 0 ∨ 0 ≤ d.From ∧ d.From < d.To ∧ d.To ≤ 1440)
def HGood (h : T_api_Hours) : Prop := -1440 ≤ h.Zone ∧ h.Zone ≤ 1440 ∧ h.Rows.length ≤ 2 ∧ (∀ r ∈ h.Rows, RowOk r) ∧ h.Holidays.length ≤ 3 ∧ (∀ d ∈ h.Holidays, HolOk d) ∧ (h.Holidays.map (·.Day)).Pairwise (· < ·)

theorem rows_is (y : T_flashmake_Stream × Int) (hy : y.2 ≤ 2) (s0 : T_flashmake_Stream) (k : Int) (hs : SOk s0 k) (hk : k ≤ 1000) (ky : List UInt8) (z : Int) :
    ∃ rows s', loopO (fun s : Int × T_api_Hours × T_flashmake_Stream => F47_flashmake_Stream_RightHours_l1 y s.1 s.2.1 s.2.2) (0, ⟨ky, z, [], []⟩, s0) = some (⟨ky, z, rows, []⟩, s') ∧ rows.length ≤ 2 ∧ (∀ r ∈ rows, RowOk r) ∧ SOk s' (k + 6) := by
  obtain ⟨e, h1, h2⟩ := loopO_ind (step := fun s : Int × T_api_Hours × T_flashmake_Stream => F47_flashmake_Stream_RightHours_l1 y s.1 s.2.1 s.2.2)
    (fun q => 0 ≤ q.1 ∧ q.1 ≤ 2 ∧ (∃ rows, q.2.1 = ⟨ky, z, rows, []⟩ ∧ (rows.length : Int) = q.1 ∧ ∀ r ∈ rows, RowOk r) ∧ SOk q.2.2 (k + 3 * q.1))
    (fun e => (∃ rows, e.1 = ⟨ky, z, rows, []⟩ ∧ rows.length ≤ 2 ∧ ∀ r ∈ rows, RowOk r) ∧ SOk e.2 (k + 6)) (fun q => (2 - q.1).toNat) (fun q hq => by
      obtain ⟨n, h, s⟩ := q
      obtain ⟨q0, q1, ⟨rows, rfl, q2, q3⟩, q4⟩ := hq
      simp only [] at q0 q1 q2 q3 q4
      simp only [F47_flashmake_Stream_RightHours_l1]
      by_cases hlt : n < y.2
      · obtain ⟨a, e1, a1⟩ := pick_in s [0, 60, 540, 720] _ q4 (by omega) (by simp) (by simp)
        obtain ⟨b, e2, b1⟩ := pick_in ⟨s.L, s.at_ + 1⟩ [127, 31, 1, 64, 32, 5] _ q4.one (by omega) (by simp) (by simp)
        obtain ⟨c, e3, c1⟩ := pick_in ⟨s.L, s.at_ + 1 + 1⟩ [1, 60, 300, 720] _ q4.one.one (by omega) (by simp) (by simp)
        have a2 : 0 ≤ a ∧ a ≤ 720 := by simp at a1; omega
        have b2 : 1 ≤ b ∧ b ≤ 127 := by simp at b1; omega
        have c2 : 1 ≤ c ∧ c ≤ 720 := by simp at c1; omega
        refine .inr ⟨(n + 1, ⟨ky, z, rows ++ [⟨b, a, a + c⟩], []⟩, ⟨s.L, s.at_ + 1 + 1 + 1⟩), ?_, ⟨by (try simp only []); omega, by (try simp only []); omega, ⟨_, rfl, by simp; omega, ?_⟩, ?_⟩, by (try simp only []); omega⟩
        · rw [e1]; simp only [hlt, decide_true, cond_true, Option.bind_some]
          rw [e2]; simp only [Option.bind_some]
          rw [e3]; simp only [Option.bind_some]
          rw [app_of (by simp; omega) (by simp; omega), w64 (by omega) (by omega), w64 (by omega) (by omega)]
          rfl
        · intro r hr
          rcases List.mem_append.1 hr with hr | hr
          · exact q3 r hr
          · simp at hr; subst hr
            exact ⟨b2.1, b2.2, a2.1, by (try simp only []); omega, by (try simp only []); omega⟩
        · exact q4.one.one.one.up (by (try simp only []); omega)
      · exact .inl ⟨(⟨ky, z, rows, []⟩, s), by simp [hlt], ⟨rows, rfl, by omega, q3⟩, q4.up (by omega)⟩) (0, ⟨ky, z, [], []⟩, s0) ⟨by simp, by simp, ⟨[], rfl, by simp, by simp⟩, by simpa using hs⟩
  obtain ⟨e1, e2⟩ := e
  obtain ⟨⟨rows, rfl, h3, h4⟩, h5⟩ := h2
  exact ⟨rows, e2, h1, h3, h4, h5⟩

def dayI (n : Int) : Int := if n = 0 then 0 else if n = 1 then 2 else 3
theorem hols_is (s0 : T_flashmake_Stream) (k : Int) (hs : SOk s0 k) (hk : k ≤ 1000) (ky : List UInt8) (z : Int) (rows : List T_api_Row) :
    ∃ hol s', loopO (fun s : Int × T_api_Hours × T_flashmake_Stream => F47_flashmake_Stream_RightHours_l2 s.1 s.2.1 s.2.2) (0, ⟨ky, z, rows, []⟩, s0) = some (⟨ky, z, rows, hol⟩, s') ∧ hol.length ≤ 3 ∧ (∀ d ∈ hol, HolOk d) ∧
      (hol.map (·.Day)).Pairwise (· < ·) ∧ SOk s' (k + 12) := by
  obtain ⟨e, h1, h2⟩ := loopO_ind (step := fun s : Int × T_api_Hours × T_flashmake_Stream => F47_flashmake_Stream_RightHours_l2 s.1 s.2.1 s.2.2)
    (fun q => 0 ≤ q.1 ∧ q.1 ≤ 3 ∧ (∃ hol, q.2.1 = ⟨ky, z, rows, hol⟩ ∧ (hol.length : Int) ≤ q.1 ∧ (∀ d ∈ hol, HolOk d) ∧ (hol.map (·.Day)).Pairwise (· < ·) ∧ ∀ d ∈ hol, q.1 ≤ 2 → d.Day < dayI q.1) ∧ SOk q.2.2 (k + 4 * q.1))
    (fun e => (∃ hol, e.1 = ⟨ky, z, rows, hol⟩ ∧ hol.length ≤ 3 ∧ (∀ d ∈ hol, HolOk d) ∧ (hol.map (·.Day)).Pairwise (· < ·)) ∧ SOk e.2 (k + 12)) (fun q => (3 - q.1).toNat) (fun q hq => by
      obtain ⟨n, h, s⟩ := q
      obtain ⟨q0, q1, ⟨hol, rfl, q2, q3, q5, q6⟩, q4⟩ := hq
      simp only [] at q0 q1 q2 q3 q4 q5 q6
      simp only [F47_flashmake_Stream_RightHours_l2]
      have hlen : ((List.length (([(0 : Int), (2 : Int), (3 : Int)] : List Int)) : Nat) : Int) = 3 := rfl
      rw [hlen]
      by_cases hlt : n < 3
      · have hday : idx ([0, 2, 3] : List Int) n = some (dayI n) := by
          rcases (by omega : n = 0 ∨ n = 1 ∨ n = 2) with rfl | rfl | rfl <;> rfl
        have hd1 : 0 ≤ dayI n ∧ dayI n ≤ 3 := by unfold dayI; split <;> (try split) <;> omega
        have hd2 : n + 1 ≤ 2 → dayI n < dayI (n + 1) := by
          intro hn
          rcases (by omega : n = 0 ∨ n = 1) with rfl | rfl <;> decide
        obtain ⟨f1, e1⟩ := flip_is s 3 _ q4 (by omega) (by omega) (by omega)
        have add : ∀ (a b : Int), (a = 0 ∧ b = 0 ∨ 0 ≤ a ∧ a < b ∧ b ≤ 1440) → ∃ hol', hol' = hol ++ [⟨dayI n, a, b⟩] ∧ (hol'.length : Int) ≤ n + 1 ∧ (∀ d ∈ hol', HolOk d) ∧ (hol'.map (·.Day)).Pairwise (· < ·) ∧ ∀ d ∈ hol', n + 1 ≤ 2 → d.Day < dayI (n + 1) := by
          intro a b hab
          refine ⟨_, rfl, by simp; omega, fun d hd => ?_, ?_, fun d hd hn => ?_⟩
          · rcases List.mem_append.1 hd with hd | hd
            · exact q3 d hd
            · simp at hd; subst hd; exact ⟨hd1.1, by (try simp only []); omega, hab⟩
          · rw [List.map_append, List.pairwise_append]
            refine ⟨q5, by simp, fun x hx y hy => ?_⟩
            simp only [List.map_cons, List.map_nil, List.mem_singleton] at hy
            subst hy
            obtain ⟨d, hd, rfl⟩ := List.mem_map.1 hx
            exact q6 d hd (by omega)
          · rcases List.mem_append.1 hd with hd | hd
            · have := q6 d hd (by omega); have := hd2 hn; omega
            · simp at hd; subst hd; exact hd2 hn
        cases f1 with
        | false =>
          refine .inr ⟨(n + 1, ⟨ky, z, rows, hol⟩, ⟨s.L, s.at_ + 1⟩), ?_, ⟨by (try simp only []); omega, by (try simp only []); omega, ⟨hol, rfl, by (try simp only []); omega, q3, q5, fun d hd hn => ?_⟩, q4.one.up (by (try simp only []); omega)⟩, by (try simp only []); omega⟩
          · simp only [hlt, decide_true, cond_true, hday, Option.bind_some, e1, Bool.not_false]
            rw [w64 (by omega) (by omega)]
          · simp only [] at hn; have := q6 d hd (by omega); have := hd2 hn; (try simp only []); omega
        | true =>
          obtain ⟨f2, e2⟩ := flip_is ⟨s.L, s.at_ + 1⟩ 2 _ q4.one (by omega) (by omega) (by omega)
          cases f2 with
          | false =>
            obtain ⟨hol', he, p1, p2, p3, p4⟩ := add 0 0 (.inl ⟨rfl, rfl⟩)
            refine .inr ⟨(n + 1, ⟨ky, z, rows, hol'⟩, ⟨s.L, s.at_ + 1 + 1⟩), ?_, ⟨by (try simp only []); omega, by (try simp only []); omega, ⟨hol', rfl, p1, p2, p3, p4⟩, q4.one.one.up (by (try simp only []); omega)⟩, by (try simp only []); omega⟩
            subst he
            simp only [hlt, decide_true, cond_true, hday, Option.bind_some, e1, e2, Bool.not_true, cond_false]
            rw [app_of (by simp; omega) (by simp; omega), w64 (by omega) (by omega)]
            rfl
          | true =>
            obtain ⟨a, e3, a1⟩ := pick_in ⟨s.L, s.at_ + 1 + 1⟩ [0, 540] _ q4.one.one (by omega) (by simp) (by simp)
            obtain ⟨b, e4, b1⟩ := pick_in ⟨s.L, s.at_ + 1 + 1 + 1⟩ [600, 1440] _ q4.one.one.one (by omega) (by simp) (by simp)
            have a2 : 0 ≤ a ∧ a ≤ 540 := by simp at a1; omega
            have b2 : 600 ≤ b ∧ b ≤ 1440 := by simp at b1; omega
            obtain ⟨hol', he, p1, p2, p3, p4⟩ := add a b (.inr ⟨a2.1, by omega, by omega⟩)
            refine .inr ⟨(n + 1, ⟨ky, z, rows, hol'⟩, ⟨s.L, s.at_ + 1 + 1 + 1 + 1⟩), ?_, ⟨by (try simp only []); omega, by (try simp only []); omega, ⟨hol', rfl, p1, p2, p3, p4⟩, q4.one.one.one.one.up (by (try simp only []); omega)⟩, by (try simp only []); omega⟩
            subst he
            simp only [hlt, decide_true, cond_true, hday, Option.bind_some, e1, e2, e3, e4, Bool.not_true, cond_false]
            rw [app_of (by simp; omega) (by simp; omega), w64 (by omega) (by omega)]
            rfl
      · exact .inl ⟨(⟨ky, z, rows, hol⟩, s), by simp [hlt], ⟨hol, rfl, by omega, q3, q5⟩, q4.up (by omega)⟩) (0, ⟨ky, z, rows, []⟩, s0) ⟨by simp, by simp, ⟨[], rfl, by simp, by simp, by simp, by simp⟩, by simpa using hs⟩
  obtain ⟨e1, e2⟩ := e
  obtain ⟨⟨hol, rfl, h3, h4, h6⟩, h5⟩ := h2
  exact ⟨hol, e2, h1, h3, h4, h6, h5⟩

theorem hours_is (s0 : T_flashmake_Stream) (k : Int) (hs : SOk s0 k) (hk : k ≤ 100) : ∃ s' l h, F47_flashmake_Stream_RightHours s0 = some (s', l) ∧ idx l 0 = some h ∧ HGood h ∧ h.Key = [104, 97] ∧ SOk s' (k + 60) := by
  obtain ⟨e, h1, h2⟩ := loopO_ind (step := fun s : List T_api_Hours × Int × T_flashmake_Stream => F47_flashmake_Stream_RightHours_l0 s.1 s.2.1 s.2.2)
    (fun q => 0 ≤ q.2.1 ∧ q.2.1 ≤ 2 ∧ (q.1.length : Int) = q.2.1 ∧ (∀ h, q.1[0]? = some h → HGood h ∧ h.Key = [104, 97]) ∧ SOk q.2.2 (k + 20 * q.2.1))
    (fun e => (∃ h, e.1[0]? = some h ∧ HGood h ∧ h.Key = [104, 97]) ∧ SOk e.2 (k + 60)) (fun q => (2 - q.2.1).toNat) (fun q hq => by
      obtain ⟨l, n, s⟩ := q
      obtain ⟨q0, q1, q2, q3, q4⟩ := hq
      simp only [] at q0 q1 q2 q3 q4
      simp only [F47_flashmake_Stream_RightHours_l0]
      have hlen : ((List.length (([([104, 97] : List UInt8), ([104, 98] : List UInt8)] : List (List UInt8))) : Nat) : Int) = 2 := rfl
      rw [hlen]
      by_cases hlt : n < 2
      · obtain ⟨ky, hky, hk0⟩ : ∃ ky, idx ([([104, 97] : List UInt8), ([104, 98] : List UInt8)] : List (List UInt8)) n = some ky ∧ (n = 0 → ky = [104, 97]) := by
          rcases (by omega : n = 0 ∨ n = 1) with rfl | rfl
          · exact ⟨_, rfl, fun _ => rfl⟩
          · exact ⟨_, rfl, fun h => by omega⟩
        obtain ⟨z, e1, z1⟩ := pick_in s [0, 0, 60, -90, 1440] _ q4 (by omega) (by simp) (by simp)
        have z2 : -1440 ≤ z ∧ z ≤ 1440 := by simp at z1; omega
        obtain ⟨m, e2, m1, m2⟩ := range_is ⟨s.L, s.at_ + 1⟩ 0 2 _ q4.one (by omega) (by omega) (by omega) (by omega)
        obtain ⟨rows, s2, e3, r1, r2, r3⟩ := rows_is (⟨s.L, s.at_ + 1 + 1⟩, m) m2 ⟨s.L, s.at_ + 1 + 1⟩ _ q4.one.one (by omega) ky z
        obtain ⟨hol, s3, e4, o1, o2, o3, o4⟩ := hols_is s2 _ r3 (by omega) ky z rows
        refine .inr ⟨(l ++ [⟨ky, z, rows, hol⟩], n + 1, s3), ?_, ⟨by (try simp only []); omega, by (try simp only []); omega, by simp; omega, fun h hh => ?_, o4.up (by (try simp only []); omega)⟩, by (try simp only []); omega⟩
        · simp only [hlt, decide_true, cond_true, hky, Option.bind_some, e1, e2, e3, e4]
          rw [app_of (by simp; omega) (by simp; omega), w64 (by omega) (by omega)]
          rfl
        · by_cases h0 : n = 0
          · have hl : l = [] := List.eq_nil_of_length_eq_zero (by omega)
            subst hl
            simp at hh; subst hh
            exact ⟨⟨z2.1, z2.2, r1, r2, o1, o2, o3⟩, hk0 h0⟩
          · rw [List.getElem?_append_left (by omega)] at hh
            exact q3 h hh
      · have hn : n = 2 := by omega
        obtain ⟨h, hh⟩ : ∃ h, l[0]? = some h := ⟨l[0]'(by omega), by simp⟩
        exact .inl ⟨(l, s), by simp [hlt], ⟨h, hh, q3 h hh⟩, q4.up (by omega)⟩) ([], 0, s0) ⟨by simp, by simp, by simp, by simp, by simpa using hs⟩
  obtain ⟨l, s'⟩ := e
  obtain ⟨⟨h, hh, h3, h4⟩, h5⟩ := h2
  refine ⟨s', l, h, ?_, by simpa [idx] using hh, h3, h4, h5⟩
  simp only [F47_flashmake_Stream_RightHours, h1, Option.bind_some]

end Go.Proofs.YtcbepglkfglclaaDoor
