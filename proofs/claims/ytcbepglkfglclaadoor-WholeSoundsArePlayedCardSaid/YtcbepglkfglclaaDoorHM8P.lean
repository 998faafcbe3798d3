/-
  WholeSoundsArePlayed, as a law of lists of numbers.
-/
import Derived.Test.YtcbepglkfglclaaDoorHM8Ab
import Derived.Test.YtcbepglkfglclaaDoorHAbsP1
namespace Go.Proofs.YtcbepglkfglclaaDoor
open Go Go.Abs
set_option maxRecDepth 100000
set_option maxHeartbeats 1000000

theorem within_is (n lo hi : Int) : F74_media_within n lo hi = some (decide (n ≥ lo) && decide (n ≤ hi)) := rfl
theorem below_is (x n : Int) (h1 : 1 ≤ n) (h2 : n ≤ 4611686018427387904) : F108_flashmake_Below x n = some (x % n) := by
  have hn : ¬ n < 1 := by omega
  have hn0 : n ≠ 0 := by omega
  have hlt : x.tmod n < n := Int.tmod_lt_of_pos _ (by omega)
  have hgt : -n < x.tmod n := by
    have := Int.tmod_lt_of_pos (-x) (b := n) (by omega)
    rw [Int.neg_tmod] at this; omega
  rw [emod_tmod x n h1]
  by_cases h : x.tmod n < 0
  · simp (disch := omega) [F108_flashmake_Below, hn, grem, hn0, h, bnd, w64]
  · simp [F108_flashmake_Below, hn, grem, hn0, h, bnd]
/-- A stream of numbers that may still be drawn from. -/
def SOk (s : T_flashmake_Stream) (k : Int) : Prop := s.L.length ≤ 4611686018427387904 ∧ 0 ≤ s.at_ ∧ s.at_ ≤ k
theorem next_is (s : T_flashmake_Stream) (n k : Int) (hs : SOk s k) (hk : k ≤ 4611686018427387904) (h1 : 1 ≤ n) (h2 : n ≤ 4611686018427387904) :
    ∃ r, F58_flashmake_Stream_Next s n = some (⟨s.L, s.at_ + 1⟩, r) ∧ 0 ≤ r ∧ r < n := by
  obtain ⟨hl, ha, hb⟩ := hs
  have e1 : IntKind.wrap .i64 (s.at_ + 1) = s.at_ + 1 := w64 (by omega) (by omega)
  have hm : ∀ x : Int, 0 ≤ x % n ∧ x % n < n := fun x => ⟨Int.emod_nonneg _ (by omega), Int.emod_lt_of_pos _ (by omega)⟩
  unfold F58_flashmake_Stream_Next
  rw [e1]
  by_cases h0 : s.L.length = 0
  · have hz : (s.L.length : Int) = 0 := by omega
    simp [hz, below_is _ _ h1 h2]
    exact hm _
  · have hz : ¬ ((s.L.length : Int) = 0) := by omega
    have e2 : IntKind.wrap .i64 (s.at_ + 1 - 1) = s.at_ := by rw [w64] <;> omega
    have hi : 0 ≤ s.at_.tmod s.L.length ∧ s.at_.tmod s.L.length < s.L.length := ⟨Int.tmod_nonneg _ ha, Int.tmod_lt_of_pos _ (by omega)⟩
    obtain ⟨x, hx, _⟩ := idx_of hi.1 hi.2
    rw [e2]
    have hne : s.L ≠ [] := by rintro q; simp [q] at h0
    have hb : ((s.L.length : Int) == 0) = false := by simp [hne]
    simp [hb, hne, grem, gquo, hx, below_is _ _ h1 h2, below_is _ 1073741824 (by omega) (by omega)]
    exact hm _
theorem range_is (s : T_flashmake_Stream) (lo hi k : Int) (hs : SOk s k) (hk : k ≤ 4611686018427387904) (h1 : lo ≤ hi) (h2 : -1000000000000 ≤ lo) (h3 : hi ≤ 1000000000000) :
    ∃ r, F15_flashmake_Stream_Range s lo hi = some (⟨s.L, s.at_ + 1⟩, r) ∧ lo ≤ r ∧ r ≤ hi := by
  obtain ⟨r, e, r1, r2⟩ := next_is s (hi - lo + 1) k hs hk (by omega) (by omega)
  have hlt : ¬ hi < lo := by omega
  refine ⟨lo + r, ?_, by omega, by omega⟩
  simp (disch := omega) [F15_flashmake_Stream_Range, hlt, w64, e, bnd]

theorem equal_is (x : List Int) (hl : x.length ≤ 20000) : F32_slices_Equal_int_int x x = some true := by
  have := loop_for (N := x.length) (step := fun s : Int => F32_slices_Equal_int_int_l0 x x s) (fun k => (k : Int)) (.inl ()) (fun k hk => by
    simp (disch := omega) [F32_slices_Equal_int_int_l0, hk, idx_at hk, w64]) (by simp [F32_slices_Equal_int_int_l0])
  simp only [Int.natCast_zero] at this
  simp [F32_slices_Equal_int_int, this, lret]
theorem SOk.up {s : T_flashmake_Stream} {k m : Int} (h : SOk s k) (e : k ≤ m) : SOk s m := ⟨h.1, h.2.1, Int.le_trans h.2.2 e⟩
theorem SOk.one {s : T_flashmake_Stream} {k : Int} (h : SOk s k) : SOk ⟨s.L, s.at_ + 1⟩ (k + 1) := by
  obtain ⟨a, b, c⟩ := h
  exact ⟨a, by (try simp only []); omega, by (try simp only []); omega⟩
theorem pick_is (s : T_flashmake_Stream) (a b k : Int) (hs : SOk s k) (hk : k ≤ 1000) : ∃ r, F36_flashmake_Stream_Pick s [a, b] = some (⟨s.L, s.at_ + 1⟩, r) ∧ (r = a ∨ r = b) := by
  obtain ⟨r, e, r1, r2⟩ := next_is s 2 k hs (by omega) (by omega) (by omega)
  unfold F36_flashmake_Stream_Pick
  have : ((List.length [a, b] : Nat) : Int) = 2 := rfl
  rw [this, e]
  rcases (by omega : r = 0 ∨ r = 1) with rfl | rfl
  · exact ⟨a, rfl, .inl rfl⟩
  · exact ⟨b, rfl, .inr rfl⟩
def Bytes (x : List Int) : Prop := ∀ a ∈ x, 0 ≤ a ∧ a ≤ 255
def exA (b : Int) : Int := (F26_media_Expand b).getD 0
theorem exp_all : (List.range 256).all (fun n => (F26_media_Expand (n : Int)).isSome) = true := by kernel_rfl
theorem exp_is (b : Int) (h : 0 ≤ b ∧ b ≤ 255) : F26_media_Expand b = some (exA b) := by
  obtain ⟨n, rfl⟩ := Int.eq_ofNat_of_zero_le h.1
  have := List.all_eq_true.1 exp_all n (List.mem_range.2 (by omega))
  obtain ⟨v, e⟩ := Option.isSome_iff_exists.1 this
  unfold exA
  rw [e]; rfl
theorem great_is (x : List Int) (hl : x.length ≤ 20000) (h : Bytes x) : F27_media_Great x = some (x.map exA, 0) := by
  have hn : ¬ ((x.length : Int) > 20000) := by omega
  have := loop_for (N := x.length) (step := fun s : List Int × Int => F27_media_Great_l0 x s.1 s.2) (fun k => (newk exA 0 x k, (k : Int))) (x.map exA) (fun k hk => by
    simp (disch := omega) [F27_media_Great_l0, hk, idx_at hk, exp_is _ (h _ (List.getElem_mem hk)), newk_idx _ _ _ _ hk, bnd, w64, newk_set _ _ _ _ hk]) (by simp [F27_media_Great_l0, newk_all])
  simp only [Int.natCast_zero, newk_zero] at this
  simp [F27_media_Great, hn, mkN_of (b := 8) (n := x.length) (x := (0 : Int)) (by omega) (by omega) (by omega), this]

theorem pay_is (p : T_api_Packet) (s : T_flashmake_Stream) (k : Int) (hs : SOk s k) (hk : k ≤ 1000) (hp : p.Payload = []) :
    ∃ x s', loopO (fun q : Int × T_api_Packet × T_flashmake_Stream => F8_flashkeep2_WholeSoundsArePlayed_l1 q.1 q.2.1 q.2.2) (0, p, s) = some (⟨p.Type_, p.Seq, p.Time, p.Source, p.Mark, x⟩, s') ∧ x.length = 40 ∧ Bytes x ∧ SOk s' (k + 40) := by
  obtain ⟨e, h1, h2⟩ := loopO_ind (step := fun q : Int × T_api_Packet × T_flashmake_Stream => F8_flashkeep2_WholeSoundsArePlayed_l1 q.1 q.2.1 q.2.2)
    (fun q => 0 ≤ q.1 ∧ q.1 ≤ 40 ∧ (∃ x, q.2.1 = ⟨p.Type_, p.Seq, p.Time, p.Source, p.Mark, x⟩ ∧ (x.length : Int) = q.1 ∧ Bytes x) ∧ SOk q.2.2 (k + q.1))
    (fun e => (∃ x, e.1 = ⟨p.Type_, p.Seq, p.Time, p.Source, p.Mark, x⟩ ∧ x.length = 40 ∧ Bytes x) ∧ SOk e.2 (k + 40)) (fun q => (40 - q.1).toNat) (fun q hq => by
      obtain ⟨n, q, s⟩ := q
      obtain ⟨q0, q1, ⟨x, rfl, q2, q3⟩, q4⟩ := hq
      simp only [] at q0 q1 q2 q3 q4
      simp only [F8_flashkeep2_WholeSoundsArePlayed_l1]
      by_cases hlt : n < 40
      · obtain ⟨r, e, r1, r2⟩ := range_is s 0 255 _ q4 (by omega) (by omega) (by omega) (by omega)
        refine .inr ⟨(n + 1, ⟨p.Type_, p.Seq, p.Time, p.Source, p.Mark, x ++ [r]⟩, ⟨s.L, s.at_ + 1⟩), ?_, ⟨by (try simp only []); omega, by (try simp only []); omega, ⟨_, rfl, by simp; omega, ?_⟩, ?_⟩, by (try simp only []); omega⟩
        · rw [e]; simp only [hlt, decide_true, cond_true, Option.bind_some]
          rw [app_of (by simp; omega) (by simp; omega), w64 (by omega) (by omega), wu8 (by omega) (by omega)]
          rfl
        · intro a ha
          rcases List.mem_append.1 ha with ha | ha
          · exact q3 a ha
          · simp at ha; omega
        · exact q4.one.up (by (try simp only []); omega)
      · exact .inl ⟨(⟨p.Type_, p.Seq, p.Time, p.Source, p.Mark, x⟩, s), by simp [hlt], ⟨x, rfl, by omega, q3⟩, q4.up (by omega)⟩) (0, p, s) ⟨by simp, by simp, ⟨[], by cases p; simp_all, by simp, by simp [Bytes]⟩, by simpa using hs⟩
  obtain ⟨e1, e2⟩ := e
  obtain ⟨⟨x, rfl, h3, h4⟩, h5⟩ := h2
  exact ⟨x, e2, h1, h3, h4, h5⟩

/-- What is sent. -/
def Laid (t u : Int) (raw : List Int) (a : List T_api_Arrival) : Prop :=
  raw.length = 40 * a.length ∧ Bytes raw ∧ ∀ i (h : i < a.length), ∃ r, 0 ≤ r ∧ r ≤ 4 ∧ a[i] = ⟨5 * i + r, ⟨0, (u + i).tmod 65536, (t + 40 * i).tmod 4294967296, 0, false, (raw.drop (40 * i)).take 40⟩⟩
theorem Laid.add {t u : Int} {raw x : List Int} {a : List T_api_Arrival} {r : Int} (h : Laid t u raw a) (hx : x.length = 40) (hb : Bytes x) (h0 : 0 ≤ r) (h4 : r ≤ 4) :
    Laid t u (raw ++ x) (a ++ [⟨5 * a.length + r, ⟨0, (u + a.length).tmod 65536, (t + 40 * a.length).tmod 4294967296, 0, false, x⟩⟩]) := by
  obtain ⟨h1, h2, h3⟩ := h
  refine ⟨by simp; omega, ?_, fun i hi => ?_⟩
  · intro b hb'
    rcases List.mem_append.1 hb' with h | h
    · exact h2 b h
    · exact hb b h
  · simp at hi
    by_cases hi' : i < a.length
    · obtain ⟨r', p1, p2, p3⟩ := h3 i hi'
      refine ⟨r', p1, p2, ?_⟩
      rw [List.getElem_append_left hi', p3]
      have : ((raw ++ x).drop (40 * i)).take 40 = (raw.drop (40 * i)).take 40 := by
        rw [List.drop_append_of_le_length (by omega), List.take_append_of_le_length (by simp; omega)]
      rw [this]
    · have e : i = a.length := by omega
      subst e
      refine ⟨r, h0, h4, ?_⟩
      have : ((raw ++ x).drop (40 * a.length)).take 40 = x := by
        rw [← h1, List.drop_left, List.take_of_length_le (by omega)]
      rw [this]
      simp
theorem sent_is (y6 y18 y29 : T_flashmake_Stream × Int) (s : T_flashmake_Stream) (k : Int) (hs : SOk s k) (hk : k ≤ 100) (hn : 1 ≤ y29.2 ∧ y29.2 ≤ 5) (hu : 0 ≤ y6.2 ∧ y6.2 ≤ 65534) (ht : 0 ≤ y18.2 ∧ y18.2 ≤ 4294967196) :
    ∃ raw a s', loopO (fun s : List Int × List T_api_Arrival × Int × T_flashmake_Stream => F8_flashkeep2_WholeSoundsArePlayed_l0 y6 y18 y29 s.1 s.2.1 s.2.2.1 s.2.2.2) ([], [], 0, s) = some (raw, a, s') ∧ 1 ≤ a.length ∧ a.length ≤ 5 ∧ Laid y18.2 y6.2 raw a ∧ SOk s' (k + 205) := by
  obtain ⟨e, h1, h2⟩ := loopO_ind (step := fun s : List Int × List T_api_Arrival × Int × T_flashmake_Stream => F8_flashkeep2_WholeSoundsArePlayed_l0 y6 y18 y29 s.1 s.2.1 s.2.2.1 s.2.2.2)
    (fun q => q.2.2.1 = (q.2.1.length : Int) ∧ q.2.2.1 ≤ y29.2 ∧ Laid y18.2 y6.2 q.1 q.2.1 ∧ SOk q.2.2.2 (k + 41 * q.2.2.1))
    (fun e => 1 ≤ e.2.1.length ∧ e.2.1.length ≤ 5 ∧ Laid y18.2 y6.2 e.1 e.2.1 ∧ SOk e.2.2 (k + 205)) (fun q => (y29.2 - q.2.2.1).toNat) (fun q hq => by
      obtain ⟨raw, a, n, s⟩ := q
      obtain ⟨q0, q1, q2, q4⟩ := hq
      simp only [] at q0 q1 q2 q4
      simp only [F8_flashkeep2_WholeSoundsArePlayed_l0]
      by_cases hlt : n < y29.2
      · obtain ⟨x, s1, e1, x1, x2, x3⟩ := pay_is ⟨0, (IntKind.wrap .i64 (y6.2 + n)).tmod 65536, (IntKind.wrap .i64 (y18.2 + (raw.length : Int))).tmod 4294967296, 0, false, []⟩ s _ q4 (by omega) rfl
        obtain ⟨r, e, r1, r2⟩ := range_is s1 0 4 _ x3 (by omega) (by omega) (by omega) (by omega)
        have hr := q2.1
        refine .inr ⟨(raw ++ x, a ++ [⟨5 * a.length + r, ⟨0, (y6.2 + a.length).tmod 65536, (y18.2 + 40 * a.length).tmod 4294967296, 0, false, x⟩⟩], n + 1, ⟨s1.L, s1.at_ + 1⟩), ?_, ⟨by simp; omega, by (try simp only []); omega, q2.add x1 x2 r1 r2, ?_⟩, by (try simp only []); omega⟩
        · rw [e1]; simp only [hlt, decide_true, cond_true, Option.bind_some]
          rw [e]; simp only [Option.bind_some]
          rw [app_of (by simp; omega) (by simp; omega)]; simp only [Option.bind_some]
          rw [app_of (by (try simp only []); omega) (by (try simp only []); omega)]; simp only [Option.bind_some]
          rw [w64 (n := y6.2 + n) (by omega) (by omega), w64 (n := y18.2 + (raw.length : Int)) (by omega) (by omega), w64 (n := 5 * n) (by omega) (by omega), w64 (n := 5 * n + r) (by omega) (by omega), w64 (n := n + 1) (by omega) (by omega), q0, hr]
          simp
        · exact x3.one.up (by (try simp only []); omega)
      · exact .inl ⟨(raw, a, s), by simp [hlt], by (try simp only []); omega, by (try simp only []); omega, q2, q4.up (by (try simp only []); omega)⟩) ([], [], 0, s) ⟨by simp, by simp; omega, ⟨by simp, by simp [Bytes], fun i h => absurd h (by simp)⟩, by simpa using hs⟩
  obtain ⟨raw, a, s'⟩ := e
  exact ⟨raw, a, s', h1, h2⟩
theorem tm_in (x n : Int) (h : 0 ≤ x) (hn : 0 < n) : 0 ≤ x.tmod n ∧ x.tmod n ≤ n - 1 := ⟨Int.tmod_nonneg _ h, by have := Int.tmod_lt_of_pos x hn; omega⟩
theorem arr_is (t u : Int) (raw : List Int) (a : List T_api_Arrival) (h : Laid t u raw a) (hl : a.length ≤ 5) (hu : 0 ≤ u) (ht : 0 ≤ t) : F79_media_CheckArrivals a = some 0 := by
  have hn : ¬ ((a.length : Int) > 2000) := by omega
  have := loop_for (N := a.length) (step := fun s : Int => F79_media_CheckArrivals_l0 a s) (fun k => (k : Int)) (.inl ()) (fun k hk => by
    obtain ⟨r, r1, r2, e⟩ := h.2.2 k hk
    obtain ⟨r0, _, _, e0⟩ := h.2.2 0 (by omega)
    have hlen := h.1
    have i0 : idx a 0 = some a[0] := idx_at (k := 0) (by omega)
    have b1 := tm_in (u + k) 65536 (by omega) (by omega)
    have b2 := tm_in (t + 40 * k) 4294967296 (by omega) (by omega)
    have hm : F91_number_IsMoment (5 * k + r) = some true := by
      have c1 : 0 ≤ 5 * (k : Int) + r := by omega
      have c2 : 5 * (k : Int) + r < 345686400000 := by omega
      simp [F91_number_IsMoment, bnd, c1, c2]
    have hp : F67_media_CheckPacket ⟨0, (u + k).tmod 65536, (t + 40 * k).tmod 4294967296, 0, false, (raw.drop (40 * k)).take 40⟩ = some 0 := by
      have c1 : ¬ 1000 < ((min 40 (raw.length - 40 * k) : Nat) : Int) := by omega
      have b3 : (u + k).tmod 65536 ≤ 65535 := by omega
      have b4 : (t + 40 * k).tmod 4294967296 ≤ 4294967295 := by omega
      simp [F67_media_CheckPacket, F74_media_within, bnd, b1.1, b2.1, b3, b4, c1]
    have hprev : (bif decide ((k : Int) > 0) then (idx a (IntKind.wrap .i64 ((k : Int) - 1))).bind fun y56 => some (decide (a[k].At < y56.At)) else some false) = some false := by
      by_cases hz : k = 0
      · subst hz; rfl
      · obtain ⟨m, rfl⟩ := Nat.exists_eq_succ_of_ne_zero hz
        obtain ⟨r', r3, r4, e'⟩ := h.2.2 m (by omega)
        have c : ((m.succ : Nat) : Int) > 0 := by omega
        rw [w64 (by omega) (by omega)]
        have : ((m.succ : Nat) : Int) - 1 = (m : Int) := by omega
        rw [this, idx_at (by omega : m < a.length)]
        have c2 : ¬ (a[m.succ].At < a[m].At) := by rw [e, e']; (try simp only []); omega
        simp [c2]
    simp only [F79_media_CheckArrivals_l0]
    have hk' : (k : Int) < (a.length : Int) := by omega
    rw [idx_at hk]
    simp only [hk', decide_true, cond_true, Option.bind_some]
    rw [hprev, i0, e, e0, hm]
    simp only [Option.bind_some, Bool.not_true, cond_false]
    rw [hp, w64 (by omega) (by omega)]
    simp) (by simp [F79_media_CheckArrivals_l0])
  simp only [Int.natCast_zero] at this
  simp [F79_media_CheckArrivals, hn, this, lret]
theorem apart_all (t : Int) (ht : t = 0 ∨ t = 4294967196) : (List.range 5).all (fun i => F80_media_apart ((t + 40 * (i : Int)).tmod 4294967296) ((t + 40 * ((0 : Nat) : Int)).tmod 4294967296) == some (40 * (i : Int))) = true := by
  rcases ht with rfl | rfl
  · kernel_rfl
  · kernel_rfl
theorem apart_is (t : Int) (ht : t = 0 ∨ t = 4294967196) (i : Nat) (hi : i < 5) : F80_media_apart ((t + 40 * i).tmod 4294967296) ((t + 40 * (0 : Nat)).tmod 4294967296) = some (40 * (i : Int)) := by
  have := List.all_eq_true.1 (apart_all t ht) i (List.mem_range.2 hi)
  simpa using this
abbrev tt (_ : Int) : Bool := true
theorem one_is (raw : List Int) (hb : Bytes raw) (hl : raw.length ≤ 200) (p : T_api_Arrival) (j : Nat) (hj : 40 * j + 40 ≤ raw.length) (hp : p.Packet.Payload = (raw.drop (40 * j)).take 40) :
    loopO (fun s : List Int × List Bool × Int => F37_media_PlayOut_l1 p (40 * j) s.1 s.2.1 s.2.2) (newk exA 0 raw (40 * j), newk tt false raw (40 * j), 0) = some (newk exA 0 raw (40 * (j + 1)), newk tt false raw (40 * (j + 1))) := by
  have hlen : p.Packet.Payload.length = 40 := by rw [hp]; simp; omega
  have := loop_for (N := 40) (step := fun s : List Int × List Bool × Int => F37_media_PlayOut_l1 p (40 * j) s.1 s.2.1 s.2.2) (fun k => (newk exA 0 raw (40 * j + k), newk tt false raw (40 * j + k), (k : Int))) (newk exA 0 raw (40 * (j + 1)), newk tt false raw (40 * (j + 1))) (fun k hk => by
    have hk1 : 40 * j + k < raw.length := by omega
    have i1 : idx p.Packet.Payload (k : Int) = some raw[40 * j + k] := by
      rw [idx_nat, hp, List.getElem?_take_of_lt (by omega), List.getElem?_drop, List.getElem?_eq_getElem hk1]
    have i2 : idx (newk exA 0 raw (40 * j + k)) ((40 * j + k : Nat) : Int) = some 0 := newk_idx _ _ _ _ hk1
    have i3 : idx (newk tt false raw (40 * j + k)) ((40 * j + k : Nat) : Int) = some false := newk_idx _ _ _ _ hk1
    have n1 := newk_set exA 0 raw (40 * j + k) hk1
    have n2 := newk_set tt false raw (40 * j + k) hk1
    have l1 := newk_length exA 0 raw (40 * j + k) (by omega)
    have x1 := exp_is _ (hb _ (List.getElem_mem hk1))
    have w : IntKind.wrap .i64 (40 * (j : Int) + (k : Int)) = ((40 * j + k : Nat) : Int) := by rw [w64 (by omega) (by omega)]; omega
    have c1 : (k : Int) < (p.Packet.Payload.length : Int) := by omega
    have c2 : ((40 * j + k : Nat) : Int) ≥ 0 := by omega
    have c3 : ((40 * j + k : Nat) : Int) < ((newk exA 0 raw (40 * j + k)).length : Int) := by rw [l1]; omega
    simp only [F37_media_PlayOut_l1]
    rw [i1, w]
    simp only [c1, decide_true, cond_true, Option.bind_some, bnd, c2, c3, Bool.and_true]
    rw [i3]
    simp only [Option.bind_some, Bool.not_false, cond_true]
    rw [x1, i2, w64 (by omega) (by omega)]
    simp only [Option.bind_some, Int.toNat_natCast]
    rw [n1, show (newk tt false raw (40 * j + k)).set (40 * j + k) true = newk tt false raw (40 * j + k + 1) from n2]
    rfl) (by
      have : ¬ ((40 : Nat) : Int) < (p.Packet.Payload.length : Int) := by omega
      simp only [F37_media_PlayOut_l1, this, decide_false, cond_false]; rfl)
  exact this
theorem play_is (t u d : Int) (raw : List Int) (a : List T_api_Arrival) (h : Laid t u raw a) (h1 : 1 ≤ a.length) (hl : a.length ≤ 5) (hu : 0 ≤ u) (ht : t = 0 ∨ t = 4294967196) (hd : 5 ≤ d ∧ d ≤ 30) :
    F37_media_PlayOut a d (5 * a.length) = some (raw.map exA, 0) := by
  have hlen := h.1
  have hb := h.2.1
  have e1 : loopO (fun s : List Int × List Bool × Int => F37_media_PlayOut_l0 a d s.1 s.2.1 s.2.2) (List.replicate raw.length 0, List.replicate raw.length false, 0) = some (raw.map exA, raw.map tt) := by
    have := loop_for (N := a.length) (step := fun s : List Int × List Bool × Int => F37_media_PlayOut_l0 a d s.1 s.2.1 s.2.2) (fun k => (newk exA 0 raw (40 * k), newk tt false raw (40 * k), (k : Int))) (raw.map exA, raw.map tt) (fun k hk => by
      obtain ⟨r, r1, r2, e⟩ := h.2.2 k hk
      obtain ⟨r0, r3, r4, e0⟩ := h.2.2 0 (by omega)
      have i0 : idx a 0 = some a[0] := idx_at (k := 0) (by omega)
      have c1 : (k : Int) < (a.length : Int) := by omega
      have ha : F80_media_apart a[k].Packet.Time a[0].Packet.Time = some (40 * (k : Int)) := by rw [e, e0]; exact apart_is t ht k (by omega)
      have hf : Int.fdiv (40 * (k : Int)) (2 ^ 3) = 5 * k := by rw [Int.fdiv_eq_ediv_of_nonneg _ (by omega)]; omega
      have c2 : ¬ (a[k].At > IntKind.wrap .i64 (IntKind.wrap .i64 (a[0].At + d) + 5 * k)) := by
        rw [e, e0]; simp only []
        rw [w64 (n := 5 * ((0 : Nat) : Int) + r0 + d) (by omega) (by omega), w64 (by omega) (by omega)]; omega
      have o := one_is raw hb (by omega) a[k] k (by omega) (by rw [e])
      simp only [F37_media_PlayOut_l0]
      rw [idx_at hk, i0]
      simp only [c1, decide_true, cond_true, Option.bind_some]
      rw [ha]
      try simp only [Option.bind_some]
      rw [hf]
      simp only [c2, decide_false, cond_false]
      rw [o, w64 (by omega) (by omega)]
      rfl) (by
        have c1 : ¬ (a.length : Int) < (a.length : Int) := by omega
        have n1 := newk_all exA 0 raw
        have n2 := newk_all tt false raw
        simp only [F37_media_PlayOut_l0, c1, decide_false, cond_false]
        rw [← hlen, n1, n2])
    simp only [Nat.mul_zero, newk_zero, Int.natCast_zero] at this
    exact this
  have e2 : loopO (fun s : List Int × Int => F37_media_PlayOut_l2 (raw.map exA) (raw.map tt) s.1 s.2) (raw.map exA, 0) = some (raw.map exA) := by
    have := loop_for (N := raw.length) (step := fun s : List Int × Int => F37_media_PlayOut_l2 (raw.map exA) (raw.map tt) s.1 s.2) (fun k => (raw.map exA, (k : Int))) (raw.map exA) (fun k hk => by
      have c1 : (k : Int) < ((raw.map exA).length : Int) := by simp; omega
      have i1 : idx (raw.map tt) (k : Int) = some true := by rw [idx_at (by simpa using hk)]; simp
      simp only [F37_media_PlayOut_l2]
      rw [i1]
      simp only [c1, decide_true, cond_true, Option.bind_some, Bool.not_true, Bool.false_and, cond_false]
      rw [w64 (by omega) (by omega)]
      rfl) (by simp [F37_media_PlayOut_l2])
    simpa using this
  have w : IntKind.wrap .i64 (8 * (5 * (a.length : Int))) = (raw.length : Int) := by rw [w64 (by omega) (by omega)]; omega
  have c1 : (d ≥ 0) := by omega
  have c2 : (d ≤ 10000) := by omega
  have c3 : (5 * (a.length : Int) ≥ 0) := by omega
  have c4 : (5 * (a.length : Int) ≤ 2500) := by omega
  unfold F37_media_PlayOut
  rw [arr_is t u raw a h hl hu (by omega)]
  simp only [F74_media_within, bnd, c1, c2, c3, c4, decide_true, Bool.and_true, Option.bind_some, Bool.not_true, cond_false, bne_self_eq_false]
  rw [w, mkN_of (by omega) (by omega) (by omega)]
  simp only [Option.bind_some, List.length_replicate, Int.toNat_natCast]
  rw [mkN_of (by omega) (by omega) (by omega)]
  simp only [Option.bind_some, Int.toNat_natCast]
  rw [e1]
  simp only [Option.bind_some]
  rw [e2]
  rfl
theorem law_WholeSoundsArePlayed (l : List Int) (hl : l.length ≤ 4611686018427387904) : F8_flashkeep2_WholeSoundsArePlayed l = some true := by
  have hs : SOk ⟨l, 0⟩ 0 := ⟨hl, Int.le_refl _, Int.le_refl _⟩
  obtain ⟨u, e1, hu⟩ := pick_is ⟨l, 0⟩ 0 65534 0 hs (by omega)
  obtain ⟨t, e2, ht⟩ := pick_is ⟨l, 0 + 1⟩ 0 4294967196 1 hs.one (by omega)
  obtain ⟨n, e3, n1, n2⟩ := range_is ⟨l, 0 + 1 + 1⟩ 1 5 2 hs.one.one (by omega) (by omega) (by omega) (by omega)
  obtain ⟨raw, a, s, e4, a1, a2, a3, a4⟩ := sent_is (⟨l, 0 + 1⟩, u) (⟨l, 0 + 1 + 1⟩, t) (⟨l, 0 + 1 + 1 + 1⟩, n) ⟨l, 0 + 1 + 1 + 1⟩ 3 hs.one.one.one (by omega) ⟨n1, n2⟩ (by (try simp only []); omega) (by (try simp only []); omega)
  obtain ⟨d, e5, d1, d2⟩ := range_is s 5 30 _ a4 (by omega) (by omega) (by omega) (by omega)
  have hlen := a3.1
  simp only [] at a3
  have hq : Int.tdiv (raw.length : Int) 8 = 5 * a.length := by rw [Int.tdiv_eq_ediv_of_nonneg (by omega)]; omega
  unfold F8_flashkeep2_WholeSoundsArePlayed
  simp only [e1, Option.bind_some, e2, e3]
  rw [e4]
  simp only [Option.bind_some]
  rw [great_is raw (by omega) a3.2.1, e5]
  simp only [Option.bind_some]
  rw [hq, w64 (by omega) (by omega), play_is t u d raw a a3 a1 a2 (by omega) ht ⟨d1, d2⟩]
  simp only [Option.bind_some]
  rw [equal_is _ (by simp; omega)]
  simp [F18_flashkeep2_ready]
end Go.Proofs.YtcbepglkfglclaaDoor
