/-
  PacketsAreCounted: what is drawn.
-/
import Derived.Test.YtcbepglkfglclaaDoorHM9Aa
import Derived.Test.YtcbepglkfglclaaDoorHAbsP1
namespace Go.Proofs.YtcbepglkfglclaaDoor
open Go Go.Abs
set_option maxRecDepth 100000
set_option maxHeartbeats 1000000

theorem below_is (x n : Int) (h1 : 1 ≤ n) (h2 : n ≤ 4611686018427387904) : F108_flashmake_Below x n = some (x % n) := by
  have hn : ¬ n < 1 := by omega
  have hn0 : n ≠ 0 := by omega
  have hlt : x.tmod n < n := Int.tmod_lt_of_pos _ (by omega)
  have hgt : -n < x.tmod n := by
    have := Int.tmod_lt_of_pos (-x) (b := n) (by omega)
    rw [Int.neg_tmod] at this; omega
  rw [emod_tmod x n h1]
  by_cases h : x.tmod n < 0
  · simp (disch := omega) [F108_flashmake_Below, hn, grem, hn0, h, bnd, w64]
  · simp [F108_flashmake_Below, hn, grem, hn0, h, bnd]
/-- A stream of numbers that may still be drawn from. -/
def SOk (s : T_flashmake_Stream) (k : Int) : Prop := s.L.length ≤ 4611686018427387904 ∧ 0 ≤ s.at_ ∧ s.at_ ≤ k
theorem next_is (s : T_flashmake_Stream) (n k : Int) (hs : SOk s k) (hk : k ≤ 4611686018427387904) (h1 : 1 ≤ n) (h2 : n ≤ 4611686018427387904) :
    ∃ r, F58_flashmake_Stream_Next s n = some (⟨s.L, s.at_ + 1⟩, r) ∧ 0 ≤ r ∧ r < n := by
  obtain ⟨hl, ha, hb⟩ := hs
  have e1 : IntKind.wrap .i64 (s.at_ + 1) = s.at_ + 1 := w64 (by omega) (by omega)
  have hm : ∀ x : Int, 0 ≤ x % n ∧ x % n < n := fun x => ⟨Int.emod_nonneg _ (by omega), Int.emod_lt_of_pos _ (by omega)⟩
  unfold F58_flashmake_Stream_Next
  rw [e1]
  by_cases h0 : s.L.length = 0
  · have hz : (s.L.length : Int) = 0 := by omega
    simp [hz, below_is _ _ h1 h2]
    exact hm _
  · have hz : ¬ ((s.L.length : Int) = 0) := by omega
    have e2 : IntKind.wrap .i64 (s.at_ + 1 - 1) = s.at_ := by rw [w64] <;> omega
    have hi : 0 ≤ s.at_.tmod s.L.length ∧ s.at_.tmod s.L.length < s.L.length := ⟨Int.tmod_nonneg _ ha, Int.tmod_lt_of_pos _ (by omega)⟩
    obtain ⟨x, hx, _⟩ := idx_of hi.1 hi.2
    rw [e2]
    have hne : s.L ≠ [] := by rintro q; simp [q] at h0
    have hb : ((s.L.length : Int) == 0) = false := by simp [hne]
    simp [hb, hne, grem, gquo, hx, below_is _ _ h1 h2, below_is _ 1073741824 (by omega) (by omega)]
    exact hm _
theorem range_is (s : T_flashmake_Stream) (lo hi k : Int) (hs : SOk s k) (hk : k ≤ 4611686018427387904) (h1 : lo ≤ hi) (h2 : -1000000000000 ≤ lo) (h3 : hi ≤ 1000000000000) :
    ∃ r, F15_flashmake_Stream_Range s lo hi = some (⟨s.L, s.at_ + 1⟩, r) ∧ lo ≤ r ∧ r ≤ hi := by
  obtain ⟨r, e, r1, r2⟩ := next_is s (hi - lo + 1) k hs hk (by omega) (by omega)
  have hlt : ¬ hi < lo := by omega
  refine ⟨lo + r, ?_, by omega, by omega⟩
  simp (disch := omega) [F15_flashmake_Stream_Range, hlt, w64, e, bnd]

theorem SOk.up {s : T_flashmake_Stream} {k m : Int} (h : SOk s k) (e : k ≤ m) : SOk s m := ⟨h.1, h.2.1, Int.le_trans h.2.2 e⟩
theorem SOk.one {s : T_flashmake_Stream} {k : Int} (h : SOk s k) : SOk ⟨s.L, s.at_ + 1⟩ (k + 1) := by
  obtain ⟨a, b, c⟩ := h
  exact ⟨a, by (try simp only []); omega, by (try simp only []); omega⟩
theorem pick_in (s : T_flashmake_Stream) (l : List Int) (k : Int) (hs : SOk s k) (hk : k ≤ 1000000) (hl : 0 < l.length) (hl2 : l.length ≤ 1000) : ∃ r, F36_flashmake_Stream_Pick s l = some (⟨s.L, s.at_ + 1⟩, r) ∧ r ∈ l := by
  obtain ⟨r, e, r1, r2⟩ := next_is s l.length k hs (by omega) (by omega) (by omega)
  obtain ⟨x, hx, hm⟩ := idx_of r1 r2
  exact ⟨x, by simp [F36_flashmake_Stream_Pick, e, hx], hm⟩
theorem flip_is (s : T_flashmake_Stream) (n k : Int) (hs : SOk s k) (hk : k ≤ 1000000) (h1 : 1 ≤ n) (h2 : n ≤ 1000) : ∃ b, F59_flashmake_Stream_Flip s n = some (⟨s.L, s.at_ + 1⟩, b) := by
  obtain ⟨r, e, r1, r2⟩ := next_is s n k hs (by omega) (by omega) (by omega)
  exact ⟨r == 0, by simp [F59_flashmake_Stream_Flip, e, bnd]⟩

def PG (p : T_api_Packet) : Prop := p.Type_ = 0 ∧ 0 ≤ p.Seq ∧ p.Seq ≤ 65535 ∧ 0 ≤ p.Time ∧ p.Time ≤ 4294967295 ∧ p.Source = 7 ∧ p.Payload.length ≤ 8
def Good (l : List T_api_Arrival) (top : Int) : Prop := (∀ x ∈ l, PG x.Packet ∧ 0 ≤ x.At ∧ x.At ≤ top) ∧ (l.map (·.At)).Pairwise (· ≤ ·)
theorem Good.up {l : List T_api_Arrival} {t u : Int} (h : Good l t) (e : t ≤ u) : Good l u := ⟨fun x hx => ⟨(h.1 x hx).1, (h.1 x hx).2.1, Int.le_trans (h.1 x hx).2.2 e⟩, h.2⟩
theorem Good.add {l : List T_api_Arrival} {t u : Int} (h : Good l t) (e : t ≤ u) (h0 : 0 ≤ u) {p : T_api_Packet} (hp : PG p) : Good (l ++ [⟨u, p⟩]) u := by
  refine ⟨fun x hx => ?_, ?_⟩
  · rcases List.mem_append.1 hx with hx | hx
    · exact (h.up e).1 x hx
    · simp at hx; subst hx; exact ⟨hp, h0, Int.le_refl _⟩
  · rw [List.map_append, List.pairwise_append]
    refine ⟨h.2, by simp, fun x hx y hy => ?_⟩
    simp only [List.map_cons, List.map_nil, List.mem_singleton] at hy
    subst hy
    obtain ⟨z, hz, rfl⟩ := List.mem_map.1 hx
    exact Int.le_trans (h.1 z hz).2.2 e
theorem Good.set {l : List T_api_Arrival} {t : Int} (h : Good l t) {i : Nat} (hi : i < l.length) {p : T_api_Packet} (hp : PG p) : Good (l.set i ⟨l[i].At, p⟩) t := by
  refine ⟨fun x hx => ?_, ?_⟩
  · rcases List.mem_or_eq_of_mem_set hx with hx | rfl
    · exact h.1 x hx
    · exact ⟨hp, (h.1 _ (List.getElem_mem hi)).2⟩
  · rw [List.map_set]
    have : (l.map (·.At)).set i l[i].At = l.map (·.At) := by
      have e : l[i].At = (l.map (·.At))[i]'(by simpa using hi) := by simp
      rw [e, List.set_getElem_self]
    show ((l.map (·.At)).set i l[i].At).Pairwise _
    rw [this]; exact h.2

theorem pay_is (y : T_flashmake_Stream × Int) (hy : y.2 ≤ 8) (p : T_api_Packet) (s : T_flashmake_Stream) (k : Int) (hs : SOk s k) (hk : k ≤ 1000) (hp : PG p) (hp0 : p.Payload = []) :
    ∃ q s', loopO (fun s : Int × T_api_Packet × T_flashmake_Stream => F38_flashmake_Stream_RightArrivals_l1 y s.1 s.2.1 s.2.2) (0, p, s) = some (q, s') ∧ PG q ∧ SOk s' (k + 8) := by
  obtain ⟨e, h1, h2⟩ := loopO_ind (step := fun s : Int × T_api_Packet × T_flashmake_Stream => F38_flashmake_Stream_RightArrivals_l1 y s.1 s.2.1 s.2.2)
    (fun q => 0 ≤ q.1 ∧ q.1 ≤ 8 ∧ PG q.2.1 ∧ (q.2.1.Payload.length : Int) = q.1 ∧ SOk q.2.2 (k + q.1))
    (fun e => PG e.1 ∧ SOk e.2 (k + 8)) (fun q => (8 - q.1).toNat) (fun q hq => by
      obtain ⟨n, q, s⟩ := q
      obtain ⟨q0, q1, q2, q3, q4⟩ := hq
      simp only [] at q0 q1 q2 q3 q4
      simp only [F38_flashmake_Stream_RightArrivals_l1]
      by_cases hlt : n < y.2
      · obtain ⟨r, e, r1, r2⟩ := range_is s 0 255 _ q4 (by omega) (by omega) (by omega) (by omega)
        obtain ⟨p1, p2, p3, p4, p5, p6, p7⟩ := q2
        refine .inr ⟨(n + 1, ⟨q.Type_, q.Seq, q.Time, q.Source, q.Mark, q.Payload ++ [r]⟩, ⟨s.L, s.at_ + 1⟩), ?_, ⟨by (try simp only []); omega, by (try simp only []); omega, ⟨p1, p2, p3, p4, p5, p6, by simp; omega⟩, by simp; omega, q4.one.up (by (try simp only []); omega)⟩, by (try simp only []); omega⟩
        rw [e]; simp only [hlt, decide_true, cond_true, Option.bind_some]
        rw [app_of (by simp; omega) (by simp; omega), w64 (by omega) (by omega), wu8 (by omega) (by omega)]
        rfl
      · exact .inl ⟨(q, s), by simp [hlt], q2, q4.up (by omega)⟩) (0, p, s) ⟨by simp, by simp, hp, by simp [hp0], by simpa using hs⟩
  exact ⟨e.1, e.2, h1, h2.1, h2.2⟩

theorem swap_is (l : List T_api_Arrival) (t : Int) (h : Good l t) (hl : 2 ≤ l.length) (hl2 : l.length ≤ 100) :
    ∃ l2, (idx l ((IntKind.wrap .i64 ((IntKind.wrap .i64 (((List.length l : Int)) - ((1 : Int)))) - ((1 : Int)))))).bind (fun y376 => (idx l (IntKind.wrap .i64 (((List.length l : Int)) - ((1 : Int))))).bind fun y386 => (idx l (IntKind.wrap .i64 (((List.length l : Int)) - ((1 : Int))))).bind fun y396 =>
      bnd (l.set (Int.toNat (IntKind.wrap .i64 (((List.length l : Int)) - ((1 : Int))))) ((⟨y396.At, y376.Packet⟩ : T_api_Arrival))) fun l409 => (idx l409 ((IntKind.wrap .i64 ((IntKind.wrap .i64 (((List.length l : Int)) - ((1 : Int)))) - ((1 : Int)))))).bind fun y415 =>
      bnd (l409.set (Int.toNat ((IntKind.wrap .i64 ((IntKind.wrap .i64 (((List.length l : Int)) - ((1 : Int)))) - ((1 : Int)))))) ((⟨y415.At, y386.Packet⟩ : T_api_Arrival))) fun l428 => some l428) = some l2 ∧ Good l2 t ∧ l2.length = l.length := by
  have e1 : IntKind.wrap .i64 ((l.length : Int) - 1) = ((l.length - 1 : Nat) : Int) := by rw [w64 (by omega) (by omega)]; omega
  have e2 : IntKind.wrap .i64 (((l.length - 1 : Nat) : Int) - 1) = ((l.length - 2 : Nat) : Int) := by rw [w64 (by omega) (by omega)]; omega
  have i1 : l.length - 1 < l.length := by omega
  have i2 : l.length - 2 < l.length := by omega
  have g1 := h.set i1 (h.1 _ (List.getElem_mem i2)).1
  have i3 : l.length - 2 < (l.set (l.length - 1) ⟨l[l.length - 1].At, l[l.length - 2].Packet⟩).length := by simpa using i2
  have g2 := g1.set i3 (h.1 _ (List.getElem_mem i1)).1
  refine ⟨_, ?_, g2, by simp⟩
  rw [e1, e2, idx_at i1, idx_at i2]
  simp only [Option.bind_some, bnd, Int.toNat_natCast]
  rw [idx_at i3]
  simp only [Option.bind_some, Int.toNat_natCast]

theorem arrivals_is (s0 : T_flashmake_Stream) (hs0 : SOk s0 0) : ∃ s' a, F38_flashmake_Stream_RightArrivals s0 12 = some (s', a) ∧ a.length ≤ 24 ∧ Good a 1000 := by
  obtain ⟨sq, e1, sq1⟩ := pick_in s0 [0, 5, 65533] _ hs0 (by omega) (by simp) (by simp)
  obtain ⟨tm, e2, tm1⟩ := pick_in ⟨s0.L, s0.at_ + 1⟩ [0, 100, 4294967096] _ hs0.one (by omega) (by simp) (by simp)
  obtain ⟨at0, e3, at1, at2⟩ := range_is ⟨s0.L, s0.at_ + 1 + 1⟩ 0 50 _ hs0.one.one (by omega) (by omega) (by omega) (by omega)
  obtain ⟨lg, e4, lg1⟩ := pick_in ⟨s0.L, s0.at_ + 1 + 1 + 1⟩ [8, 80, 160] _ hs0.one.one.one (by omega) (by simp) (by simp)
  obtain ⟨m, e5, m1, m2⟩ := range_is ⟨s0.L, s0.at_ + 1 + 1 + 1 + 1⟩ 0 12 _ hs0.one.one.one.one (by omega) (by omega) (by omega) (by omega)
  have sq2 : 0 ≤ sq ∧ sq ≤ 65533 := by simp at sq1; omega
  have tm2 : 0 ≤ tm ∧ tm ≤ 4294967096 := by simp at tm1; omega
  have lg2 : lg = 8 ∨ lg = 80 ∨ lg = 160 := by simpa using lg1
  have hlg : IntKind.wrap .i64 (lg.tdiv 8) = lg / 8 ∧ 1 ≤ lg / 8 ∧ lg / 8 ≤ 20 := by rcases lg2 with rfl | rfl | rfl <;> decide
  obtain ⟨e, h1, h2⟩ := loopO_ind (step := fun s : List T_api_Arrival × Int × Int × Int × Int × T_flashmake_Stream => F38_flashmake_Stream_RightArrivals_l0 (⟨s0.L, s0.at_ + 1 + 1 + 1 + 1⟩, lg) (⟨s0.L, s0.at_ + 1 + 1 + 1 + 1 + 1⟩, m) s.1 s.2.1 s.2.2.1 s.2.2.2.1 s.2.2.2.2.1 s.2.2.2.2.2)
    (fun q => 0 ≤ q.2.2.2.2.1 ∧ q.2.2.2.2.1 ≤ 12 ∧ (q.1.length : Int) ≤ 2 * q.2.2.2.2.1 ∧ (0 ≤ q.2.1 ∧ q.2.1 ≤ 65533 + q.2.2.2.2.1) ∧ (0 ≤ q.2.2.1 ∧ q.2.2.1 ≤ 4294967096 + 160 * q.2.2.2.2.1) ∧
      (0 ≤ q.2.2.2.1 ∧ q.2.2.2.1 ≤ 50 + 25 * q.2.2.2.2.1) ∧ Good q.1 q.2.2.2.1 ∧ SOk q.2.2.2.2.2 (5 + 13 * q.2.2.2.2.1))
    (fun e => e.1.length ≤ 24 ∧ Good e.1 1000) (fun q => (12 - q.2.2.2.2.1).toNat) (fun q hq => by
      obtain ⟨out, seq, time, at_, n, s⟩ := q
      obtain ⟨q0, q1, q2, ⟨q3, q4⟩, ⟨q5, q6⟩, ⟨q7, q8⟩, q9, q10⟩ := hq
      simp only [] at q0 q1 q2 q3 q4 q5 q6 q7 q8 q9 q10
      simp only [F38_flashmake_Stream_RightArrivals_l0]
      by_cases hlt : n < m
      · obtain ⟨c, f1, c1⟩ := pick_in s [0, 3, 8] _ q10 (by omega) (by simp) (by simp)
        have c2 : c ≤ 8 := by simp at c1; omega
        have r1 : seq.tmod 65536 = seq % 65536 := Int.tmod_eq_emod_of_nonneg q3
        have r2 : time.tmod 4294967296 = time % 4294967296 := Int.tmod_eq_emod_of_nonneg q5
        obtain ⟨p, s2, f2, pg, s2ok⟩ := pay_is (⟨s.L, s.at_ + 1⟩, c) c2 ⟨0, seq.tmod 65536, time.tmod 4294967296, 7, false, []⟩ ⟨s.L, s.at_ + 1⟩ _ q10.one (by omega)
          ⟨rfl, by show 0 ≤ seq.tmod 65536; rw [r1]; omega, by show seq.tmod 65536 ≤ 65535; rw [r1]; omega, by show 0 ≤ time.tmod 4294967296; rw [r2]; omega, by show time.tmod 4294967296 ≤ 4294967295; rw [r2]; omega, rfl, by simp⟩ rfl
        obtain ⟨g, f3, g1⟩ := pick_in s2 [0, 1, lg / 8, lg / 8, 25] _ s2ok (by omega) (by simp) (by simp)
        have g2 : 0 ≤ g ∧ g ≤ 25 := by simp at g1; omega
        obtain ⟨b1, f4⟩ := flip_is ⟨s2.L, s2.at_ + 1⟩ 5 _ s2ok.one (by omega) (by omega) (by omega)
        have ok4 := s2ok.one.one
        -- what is sent, late or not at all
        have mid : ∃ out2 s3, (bif b1 then (some ((out, (⟨s2.L, s2.at_ + 1 + 1⟩ : T_flashmake_Stream)))) else ((bif (decide (((List.length out : Int)) > ((0 : Int)))) then ((F59_flashmake_Stream_Flip ⟨s2.L, s2.at_ + 1 + 1⟩ ((5 : Int))).bind fun y306 => some (y306.2, y306.1)) else (some (false, ⟨s2.L, s2.at_ + 1 + 1⟩))).bind fun y323 => bif y323.1 then ((app 72 out (([(⟨at_ + g, p⟩ : T_api_Arrival)] : List T_api_Arrival))).bind fun y369 => bnd ((IntKind.wrap .i64 (((List.length y369 : Int)) - ((1 : Int))))) fun u374 => (idx y369 ((IntKind.wrap .i64 (u374 - ((1 : Int)))))).bind fun y376 => (idx y369 u374).bind fun y386 => (idx y369 u374).bind fun y396 => bnd (y369.set (Int.toNat u374) ((⟨y396.At, y376.Packet⟩ : T_api_Arrival))) fun l409 => (idx l409 ((IntKind.wrap .i64 (u374 - ((1 : Int)))))).bind fun y415 => bnd (l409.set (Int.toNat ((IntKind.wrap .i64 (u374 - ((1 : Int)))))) ((⟨y415.At, y386.Packet⟩ : T_api_Arrival))) fun l428 => some ((l428, y323.2))) else ((app 72 out (([(⟨at_ + g, p⟩ : T_api_Arrival)] : List T_api_Arrival))).bind fun y451 => some ((y451, y323.2))))) = some (out2, s3) ∧
            out2.length ≤ out.length + 1 ∧ Good out2 (at_ + g) ∧ SOk s3 (5 + 13 * n + 12) := by
          have gadd := q9.add (show at_ ≤ at_ + g by omega) (by omega) pg
          have happ : app 72 out [(⟨at_ + g, p⟩ : T_api_Arrival)] = some (out ++ [⟨at_ + g, p⟩]) := app_of (by simp; omega) (by simp; omega)
          cases b1 with
          | true => exact ⟨out, _, rfl, by omega, q9.up (by omega), ok4.up (by omega)⟩
          | false =>
            by_cases h0 : (List.length out : Int) > 0
            · obtain ⟨b2, f5⟩ := flip_is ⟨s2.L, s2.at_ + 1 + 1⟩ 5 _ ok4 (by omega) (by omega) (by omega)
              simp only [cond_false, h0, decide_true, cond_true, f5, Option.bind_some, happ]
              cases b2 with
              | false => exact ⟨_, _, rfl, by simp, gadd, ok4.one.up (by omega)⟩
              | true =>
                obtain ⟨l2, w1, w2, w3⟩ := swap_is _ _ gadd (by simp; omega) (by simp; omega)
                refine ⟨l2, ⟨s2.L, s2.at_ + 1 + 1 + 1⟩, ?_, by rw [w3]; simp, w2, ok4.one.up (by omega)⟩
                simp only [cond_true, bnd] at w1 ⊢
                simp only [Option.bind_eq_some_iff] at w1 ⊢
                obtain ⟨a1, x1, a2, x2, a3, x3, a4, x4, x5⟩ := w1
                exact ⟨a1, x1, a2, x2, a3, x3, a4, x4, by rw [Option.some.inj x5]⟩
            · have h0' : (decide (((List.length out : Int)) > ((0 : Int)))) = false := by simpa using h0
              simp only [cond_false, h0', Option.bind_some, happ]
              exact ⟨_, _, rfl, by simp, gadd, ok4.up (by omega)⟩
        obtain ⟨out2, s3, f6, o1, o2, o3⟩ := mid
        have hd : (decide (n < m)) = true := by simpa using hlt
        simp only [hd, cond_true, f1, Option.bind_some, f2, hlg.1, f3, bnd]
        rw [w64 (n := seq + 1) (by omega) (by omega), w64 (n := time + lg) (by omega) (by omega), w64 (n := at_ + g) (by omega) (by omega), w64 (n := n + 1) (by omega) (by omega)]
        simp only [f4, Option.bind_some]
        simp only [bnd] at f6
        rw [f6]
        simp only [Option.bind_some]
        by_cases h0 : (List.length out2 : Int) > 0
        · obtain ⟨b3, f7⟩ := flip_is s3 8 _ o3 (by omega) (by omega) (by omega)
          simp only [h0, decide_true, cond_true, f7, Option.bind_some]
          cases b3 with
          | false => exact .inr ⟨_, rfl, ⟨by (try simp only []); omega, by (try simp only []); omega, by (try simp only []); omega, ⟨by (try simp only []); omega, by (try simp only []); omega⟩, ⟨by (try simp only []); omega, by (try simp only []); omega⟩, ⟨by (try simp only []); omega, by (try simp only []); omega⟩, o2, o3.one.up (by (try simp only []); omega)⟩, by (try simp only []); omega⟩
          | true =>
            have e9 : IntKind.wrap .i64 ((out2.length : Int) - 1) = ((out2.length - 1 : Nat) : Int) := by rw [w64 (by omega) (by omega)]; omega
            have i9 : out2.length - 1 < out2.length := by omega
            simp only [cond_true]
            rw [e9, idx_at i9]
            simp only [Option.bind_some]
            rw [app_of (by simp; omega) (by simp; omega)]
            exact .inr ⟨_, rfl, ⟨by (try simp only []); omega, by (try simp only []); omega, by simp; omega, ⟨by (try simp only []); omega, by (try simp only []); omega⟩, ⟨by (try simp only []); omega, by (try simp only []); omega⟩, ⟨by (try simp only []); omega, by (try simp only []); omega⟩, o2.add (Int.le_refl _) (by omega) (o2.1 _ (List.getElem_mem i9)).1, o3.one.up (by (try simp only []); omega)⟩, by (try simp only []); omega⟩
        · have h0' : (decide (((List.length out2 : Int)) > ((0 : Int)))) = false := by simpa using h0
          simp only [h0', cond_false, Option.bind_some]
          exact .inr ⟨_, rfl, ⟨by (try simp only []); omega, by (try simp only []); omega, by (try simp only []); omega, ⟨by (try simp only []); omega, by (try simp only []); omega⟩, ⟨by (try simp only []); omega, by (try simp only []); omega⟩, ⟨by (try simp only []); omega, by (try simp only []); omega⟩, o2, o3.up (by (try simp only []); omega)⟩, by (try simp only []); omega⟩
      · exact .inl ⟨(out, s), by simp [hlt], by (try simp only []); omega, q9.up (by omega)⟩) ([], sq, tm, at0, 0, ⟨s0.L, s0.at_ + 1 + 1 + 1 + 1 + 1⟩)
    ⟨by simp, by simp, by simp, ⟨sq2.1, by (try simp only []); omega⟩, ⟨tm2.1, by (try simp only []); omega⟩, ⟨at1, by (try simp only []); omega⟩, ⟨by simp, by simp⟩, hs0.one.one.one.one.one.up (by (try simp only []); omega)⟩
  refine ⟨e.2, e.1, ?_, h2.1, h2.2⟩
  simp only [F38_flashmake_Stream_RightArrivals, e1, Option.bind_some, e2, e3, e4, e5, h1]

end Go.Proofs.YtcbepglkfglclaaDoor
