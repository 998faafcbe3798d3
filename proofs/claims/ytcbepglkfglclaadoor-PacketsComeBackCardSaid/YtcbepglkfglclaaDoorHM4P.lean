/-
  PacketsComeBack: what is drawn.
-/
import Derived.Test.YtcbepglkfglclaaDoorHM4Aa
import Derived.Test.YtcbepglkfglclaaDoorHAbsP1
namespace Go.Proofs.YtcbepglkfglclaaDoor
open Go Go.Abs
set_option maxRecDepth 100000
set_option maxHeartbeats 1000000

theorem below_is (x n : Int) (h1 : 1 ≤ n) (h2 : n ≤ 4611686018427387904) : F108_flashmake_Below x n = some (x % n) := by
  have hn : ¬ n < 1 := by omega
  have hn0 : n ≠ 0 := by omega
  have hlt : x.tmod n < n := Int.tmod_lt_of_pos _ (by omega)
  have hgt : -n < x.tmod n := by
    have := Int.tmod_lt_of_pos (-x) (b := n) (by omega)
    rw [Int.neg_tmod] at this; omega
  rw [emod_tmod x n h1]
  by_cases h : x.tmod n < 0
  · simp (disch := omega) [F108_flashmake_Below, hn, grem, hn0, h, bnd, w64]
  · simp [F108_flashmake_Below, hn, grem, hn0, h, bnd]
/-- A stream of numbers that may still be drawn from. -/
def SOk (s : T_flashmake_Stream) (k : Int) : Prop := s.L.length ≤ 4611686018427387904 ∧ 0 ≤ s.at_ ∧ s.at_ ≤ k
theorem next_is (s : T_flashmake_Stream) (n k : Int) (hs : SOk s k) (hk : k ≤ 4611686018427387904) (h1 : 1 ≤ n) (h2 : n ≤ 4611686018427387904) :
    ∃ r, F58_flashmake_Stream_Next s n = some (⟨s.L, s.at_ + 1⟩, r) ∧ 0 ≤ r ∧ r < n := by
  obtain ⟨hl, ha, hb⟩ := hs
  have e1 : IntKind.wrap .i64 (s.at_ + 1) = s.at_ + 1 := w64 (by omega) (by omega)
  have hm : ∀ x : Int, 0 ≤ x % n ∧ x % n < n := fun x => ⟨Int.emod_nonneg _ (by omega), Int.emod_lt_of_pos _ (by omega)⟩
  unfold F58_flashmake_Stream_Next
  rw [e1]
  by_cases h0 : s.L.length = 0
  · have hz : (s.L.length : Int) = 0 := by omega
    simp [hz, below_is _ _ h1 h2]
    exact hm _
  · have hz : ¬ ((s.L.length : Int) = 0) := by omega
    have e2 : IntKind.wrap .i64 (s.at_ + 1 - 1) = s.at_ := by rw [w64] <;> omega
    have hi : 0 ≤ s.at_.tmod s.L.length ∧ s.at_.tmod s.L.length < s.L.length := ⟨Int.tmod_nonneg _ ha, Int.tmod_lt_of_pos _ (by omega)⟩
    obtain ⟨x, hx, _⟩ := idx_of hi.1 hi.2
    rw [e2]
    have hne : s.L ≠ [] := by rintro q; simp [q] at h0
    have hb : ((s.L.length : Int) == 0) = false := by simp [hne]
    simp [hb, hne, grem, gquo, hx, below_is _ _ h1 h2, below_is _ 1073741824 (by omega) (by omega)]
    exact hm _
theorem range_is (s : T_flashmake_Stream) (lo hi k : Int) (hs : SOk s k) (hk : k ≤ 4611686018427387904) (h1 : lo ≤ hi) (h2 : -1000000000000 ≤ lo) (h3 : hi ≤ 1000000000000) :
    ∃ r, F15_flashmake_Stream_Range s lo hi = some (⟨s.L, s.at_ + 1⟩, r) ∧ lo ≤ r ∧ r ≤ hi := by
  obtain ⟨r, e, r1, r2⟩ := next_is s (hi - lo + 1) k hs hk (by omega) (by omega)
  have hlt : ¬ hi < lo := by omega
  refine ⟨lo + r, ?_, by omega, by omega⟩
  simp (disch := omega) [F15_flashmake_Stream_Range, hlt, w64, e, bnd]

theorem SOk.up {s : T_flashmake_Stream} {k m : Int} (h : SOk s k) (e : k ≤ m) : SOk s m := ⟨h.1, h.2.1, Int.le_trans h.2.2 e⟩
theorem SOk.one {s : T_flashmake_Stream} {k : Int} (h : SOk s k) : SOk ⟨s.L, s.at_ + 1⟩ (k + 1) := by
  obtain ⟨a, b, c⟩ := h
  exact ⟨a, by (try simp only []); omega, by (try simp only []); omega⟩
theorem pick_in (s : T_flashmake_Stream) (l : List Int) (k : Int) (hs : SOk s k) (hk : k ≤ 1000000) (hl : 0 < l.length) (hl2 : l.length ≤ 1000) : ∃ r, F36_flashmake_Stream_Pick s l = some (⟨s.L, s.at_ + 1⟩, r) ∧ r ∈ l := by
  obtain ⟨r, e, r1, r2⟩ := next_is s l.length k hs (by omega) (by omega) (by omega)
  obtain ⟨x, hx, hm⟩ := idx_of r1 r2
  exact ⟨x, by simp [F36_flashmake_Stream_Pick, e, hx], hm⟩
theorem flip_is (s : T_flashmake_Stream) (n k : Int) (hs : SOk s k) (hk : k ≤ 1000000) (h1 : 1 ≤ n) (h2 : n ≤ 1000) : ∃ b, F59_flashmake_Stream_Flip s n = some (⟨s.L, s.at_ + 1⟩, b) := by
  obtain ⟨r, e, r1, r2⟩ := next_is s n k hs (by omega) (by omega) (by omega)
  exact ⟨r == 0, by simp [F59_flashmake_Stream_Flip, e, bnd]⟩

def PG (p : T_api_Packet) : Prop := p.Type_ = 0 ∧ 0 ≤ p.Seq ∧ p.Seq ≤ 65535 ∧ 0 ≤ p.Time ∧ p.Time ≤ 4294967295 ∧ p.Source = 7 ∧ p.Payload.length ≤ 8

/-- Bytes. -/
def Byt (l : List Int) : Prop := ∀ x ∈ l, 0 ≤ x ∧ x ≤ 255
/-- A packet that can be written. -/
def POk (p : T_api_Packet) : Prop := (0 ≤ p.Type_ ∧ p.Type_ ≤ 127) ∧ (0 ≤ p.Seq ∧ p.Seq ≤ 65535) ∧ (0 ≤ p.Time ∧ p.Time ≤ 4294967295) ∧ (0 ≤ p.Source ∧ p.Source ≤ 4294967295) ∧ Byt p.Payload ∧ p.Payload.length ≤ 1000
theorem Byt.add {l : List Int} (h : Byt l) {x : Int} (h1 : 0 ≤ x) (h2 : x ≤ 255) : Byt (l ++ [x]) := by
  intro y hy
  rcases List.mem_append.1 hy with hy | hy
  · exact h y hy
  · simp at hy; subst hy; exact ⟨h1, h2⟩

theorem packet_in (s0 : T_flashmake_Stream) (k : Int) (hs : SOk s0 k) (hk : k ≤ 1000) : ∃ s' p, F19_flashmake_Stream_RightPacket s0 = some (s', p) ∧ POk p ∧ p.Payload.length ≤ 6 ∧ SOk s' (k + 20) := by
  obtain ⟨ty, e1, t1⟩ := pick_in s0 [0, 8, 127] _ hs (by omega) (by simp) (by simp)
  obtain ⟨sq, e2, t2⟩ := pick_in ⟨s0.L, s0.at_ + 1⟩ [0, 1, 255, 256, 65535] _ hs.one (by omega) (by simp) (by simp)
  obtain ⟨tm, e3, t3⟩ := pick_in ⟨s0.L, s0.at_ + 1 + 1⟩ [0, 160, 4294967295, 2147483648] _ hs.one.one (by omega) (by simp) (by simp)
  obtain ⟨so_, e4, t4⟩ := pick_in ⟨s0.L, s0.at_ + 1 + 1 + 1⟩ [0, 7, 4294967295] _ hs.one.one.one (by omega) (by simp) (by simp)
  obtain ⟨mk, e5⟩ := flip_is ⟨s0.L, s0.at_ + 1 + 1 + 1 + 1⟩ 2 _ hs.one.one.one.one (by omega) (by omega) (by omega)
  obtain ⟨n, e6, n1, n2⟩ := range_is ⟨s0.L, s0.at_ + 1 + 1 + 1 + 1 + 1⟩ 0 5 _ hs.one.one.one.one.one (by omega) (by omega) (by omega) (by omega)
  have t1' : 0 ≤ ty ∧ ty ≤ 127 := by simp at t1; omega
  have t2' : 0 ≤ sq ∧ sq ≤ 65535 := by simp at t2; omega
  have t3' : 0 ≤ tm ∧ tm ≤ 4294967295 := by simp at t3; omega
  have t4' : 0 ≤ so_ ∧ so_ ≤ 4294967295 := by simp at t4; omega
  obtain ⟨e, h1, h2⟩ := loopO_ind (step := fun s : Int × T_api_Packet × T_flashmake_Stream => F19_flashmake_Stream_RightPacket_l0 (⟨s0.L, s0.at_ + 1 + 1 + 1 + 1 + 1 + 1⟩, n) s.1 s.2.1 s.2.2)
    (fun q => 0 ≤ q.1 ∧ q.1 ≤ 5 ∧ POk q.2.1 ∧ (q.2.1.Payload.length : Int) = q.1 ∧ SOk q.2.2 (k + 6 + q.1))
    (fun e => POk e.1 ∧ e.1.Payload.length ≤ 6 ∧ SOk e.2 (k + 20)) (fun q => (5 - q.1).toNat) (fun q hq => by
      obtain ⟨m, q, s⟩ := q
      obtain ⟨q0, q1, q2, q3, q4⟩ := hq
      simp only [] at q0 q1 q2 q3 q4
      simp only [F19_flashmake_Stream_RightPacket_l0]
      by_cases hlt : m < n
      · obtain ⟨r, e, r1, r2⟩ := range_is s 0 255 _ q4 (by omega) (by omega) (by omega) (by omega)
        obtain ⟨p1, p2, p3, p4, p5, p6⟩ := q2
        refine .inr ⟨(m + 1, ⟨q.Type_, q.Seq, q.Time, q.Source, q.Mark, q.Payload ++ [r]⟩, ⟨s.L, s.at_ + 1⟩), ?_, ⟨by (try simp only []); omega, by (try simp only []); omega, ⟨p1, p2, p3, p4, p5.add r1 r2, by simp; omega⟩, by simp; omega, q4.one.up (by (try simp only []); omega)⟩, by (try simp only []); omega⟩
        rw [e]; simp only [hlt, decide_true, cond_true, Option.bind_some]
        rw [app_of (by simp; omega) (by simp; omega), w64 (by omega) (by omega), wu8 (by omega) (by omega)]
        rfl
      · exact .inl ⟨(q, s), by simp [hlt], q2, by (try simp only []); omega, q4.up (by omega)⟩) (0, ⟨ty, sq, tm, so_, mk, []⟩, ⟨s0.L, s0.at_ + 1 + 1 + 1 + 1 + 1 + 1⟩)
    ⟨by simp, by simp, ⟨t1', t2', t3', t4', fun x hx => by simp at hx, by simp⟩, by simp, hs.one.one.one.one.one.one.up (by (try simp only []); omega)⟩
  refine ⟨e.2, e.1, ?_, h2.1, h2.2.1, h2.2.2⟩
  simp only [F19_flashmake_Stream_RightPacket, e1, e2, e3, e4, e5, e6, Option.bind_some, h1]
end Go.Proofs.YtcbepglkfglclaaDoor
