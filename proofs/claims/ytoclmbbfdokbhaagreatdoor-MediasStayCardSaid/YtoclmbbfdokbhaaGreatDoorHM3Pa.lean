/-
  MediasStay: what is drawn.
-/
import Derived.Test.YtoclmbbfdokbhaaGreatDoorHM3Aa
import Derived.Test.YtoclmbbfdokbhaaGreatDoorHM3Absc
namespace Go.Proofs.YtoclmbbfdokbhaaGreatDoor
open Go Go.Abs
set_option maxRecDepth 100000
set_option maxHeartbeats 1000000
theorem below_is (x n : Int) (h1 : 1 ≤ n) (h2 : n ≤ 4611686018427387904) : uF128 x n = some (x % n) := by
 have hn : ¬ n < 1 := by omega
 have hn0 : n ≠ 0 := by omega
 have hlt : x.tmod n < n := Int.tmod_lt_of_pos _ (by omega);have hgt : -n < x.tmod n := by
  have := Int.tmod_lt_of_pos (-x) (b := n) (by omega)
  rw [Int.neg_tmod] at this; omega
 rw [emod_tmod x n h1];by_cases h : x.tmod n < 0
 ·simp (disch := omega) [uF128, hn, grem, hn0, h, bnd, w64]
 ·simp [uF128, hn, grem, hn0, h, bnd]
def SOk (s : uT0) (k : Int) : Prop := s.L.length ≤ 4611686018427387904 ∧ 0 ≤ s.at_ ∧ s.at_ ≤ k
theorem next_is (s : uT0) (n k : Int) (hs : SOk s k) (hk : k ≤ 4611686018427387904) (h1 : 1 ≤ n) (h2 : n ≤ 4611686018427387904) :
  ∃ r, uF63 s n = some (⟨s.L, s.at_ + 1⟩, r) ∧ 0 ≤ r ∧ r < n := by
 obtain ⟨hl, ha, hb⟩ := hs;have e1 : IntKind.wrap .i64 (s.at_ + 1) = s.at_ + 1 := w64 (by omega) (by omega);have hm : ∀ x : Int, 0 ≤ x % n ∧ x % n < n := fun x => ⟨Int.emod_nonneg _ (by omega), Int.emod_lt_of_pos _ (by omega)⟩;unfold uF63;rw [e1];by_cases h0 : s.L.length = 0
 ·have hz : (s.L.length : Int) = 0 := by omega
  simp [hz, below_is _ _ h1 h2];exact hm _
 ·have hz : ¬ ((s.L.length : Int) = 0) := by omega
  have e2 : IntKind.wrap .i64 (s.at_ + 1 - 1) = s.at_ := by rw [w64] <;> omega
  have hi : 0 ≤ s.at_.tmod s.L.length ∧ s.at_.tmod s.L.length < s.L.length := ⟨Int.tmod_nonneg _ ha, Int.tmod_lt_of_pos _ (by omega)⟩;obtain ⟨x, hx, _⟩ := idx_of hi.1 hi.2;rw [e2];have hne : s.L ≠ [] := by rintro q; simp [q] at h0
  have hb : ((s.L.length : Int) == 0) = false := by simp [hne]
  simp [hb, hne, grem, gquo, hx, below_is _ _ h1 h2, below_is _ 1073741824 (by omega) (by omega)];exact hm _
theorem range_is (s : uT0) (lo hi k : Int) (hs : SOk s k) (hk : k ≤ 4611686018427387904) (h1 : lo ≤ hi) (h2 : -1000000000000 ≤ lo) (h3 : hi ≤ 1000000000000) :
  ∃ r, uF61 s lo hi = some (⟨s.L, s.at_ + 1⟩, r) ∧ lo ≤ r ∧ r ≤ hi := by
 obtain ⟨r, e, r1, r2⟩ := next_is s (hi - lo + 1) k hs hk (by omega) (by omega);have hlt : ¬ hi < lo := by omega
 refine ⟨lo + r, ?_, by omega, by omega⟩;simp (disch := omega) [uF61, hlt, w64, e, bnd]

theorem SOk.up {s : uT0} {k m : Int} (h : SOk s k) (e : k ≤ m) : SOk s m := ⟨h.1, h.2.1, Int.le_trans h.2.2 e⟩
theorem SOk.one {s : uT0} {k : Int} (h : SOk s k) : SOk ⟨s.L, s.at_ + 1⟩ (k + 1) := by
 obtain ⟨a, b, c⟩ := h;exact ⟨a, by (try simp only []); omega, by (try simp only []); omega⟩
theorem pick_in (s : uT0) (l : List Int) (k : Int) (hs : SOk s k) (hk : k ≤ 1000000) (hl : 0 < l.length) (hl2 : l.length ≤ 1000) : ∃ r, uF58 s l = some (⟨s.L, s.at_ + 1⟩, r) ∧ r ∈ l := by
 obtain ⟨r, e, r1, r2⟩ := next_is s l.length k hs (by omega) (by omega) (by omega);obtain ⟨x, hx, hm⟩ := idx_of r1 r2;exact ⟨x, by simp [uF58, e, hx], hm⟩
theorem flip_is (s : uT0) (n k : Int) (hs : SOk s k) (hk : k ≤ 1000000) (h1 : 1 ≤ n) (h2 : n ≤ 1000) : ∃ b, uF53 s n = some (⟨s.L, s.at_ + 1⟩, b) := by
 obtain ⟨r, e, r1, r2⟩ := next_is s n k hs (by omega) (by omega) (by omega);exact ⟨r == 0, by simp [uF53, e, bnd]⟩

def PG (p : uT3) : Prop := p.Type_ = 0 ∧ 0 ≤ p.Seq ∧ p.Seq ≤ 65535 ∧ 0 ≤ p.Time ∧ p.Time ≤ 4294967295 ∧ p.Source = 7 ∧ p.Payload.length ≤ 8 ∧ ∀ b ∈ p.Payload, 0 ≤ b ∧ b ≤ 255
def Good (l : List uT2) (top : Int) : Prop := (∀ x ∈ l, PG x.Packet ∧ 0 ≤ x.At ∧ x.At ≤ top) ∧ (l.map (·.At)).Pairwise (· ≤ ·)
theorem Good.up {l : List uT2} {t u : Int} (h : Good l t) (e : t ≤ u) : Good l u := ⟨fun x hx => ⟨(h.1 x hx).1, (h.1 x hx).2.1, Int.le_trans (h.1 x hx).2.2 e⟩, h.2⟩
theorem Good.add {l : List uT2} {t u : Int} (h : Good l t) (e : t ≤ u) (h0 : 0 ≤ u) {p : uT3} (hp : PG p) : Good (l ++ [⟨u, p⟩]) u := by
 refine ⟨fun x hx => ?_, ?_⟩
 ·rcases List.mem_append.1 hx with hx | hx
  ·exact (h.up e).1 x hx
  ·simp at hx; subst hx; exact ⟨hp, h0, Int.le_refl _⟩
 ·rw [List.map_append, List.pairwise_append]
  refine ⟨h.2, by simp, fun x hx y hy => ?_⟩;simp only [List.map_cons, List.map_nil, List.mem_singleton] at hy;subst hy;obtain ⟨z, hz, rfl⟩ := List.mem_map.1 hx;exact Int.le_trans (h.1 z hz).2.2 e
theorem Good.set {l : List uT2} {t : Int} (h : Good l t) {i : Nat} (hi : i < l.length) {p : uT3} (hp : PG p) : Good (l.set i ⟨l[i].At, p⟩) t := by
 refine ⟨fun x hx => ?_, ?_⟩
 ·rcases List.mem_or_eq_of_mem_set hx with hx | rfl
  ·exact h.1 x hx
  ·exact ⟨hp, (h.1 _ (List.getElem_mem hi)).2⟩
 ·rw [List.map_set]
  have : (l.map (·.At)).set i l[i].At = l.map (·.At) := by
   have e : l[i].At = (l.map (·.At))[i]'(by simpa using hi) := by simp
   rw [e, List.set_getElem_self]
  show ((l.map (·.At)).set i l[i].At).Pairwise _;rw [this]; exact h.2

theorem pay_is (y : uT0 × Int) (hy : y.2 ≤ 8) (p : uT3) (s : uT0) (k : Int) (hs : SOk s k) (hk : k ≤ 1000) (hp : PG p) (hp0 : p.Payload = []) :
  ∃ q s', loopO (fun s : Int × uT3 × uT0 => uF10a y s.1 s.2.1 s.2.2) (0, p, s) = some (q, s') ∧ PG q ∧ SOk s' (k + 8) := by
 obtain ⟨e, h1, h2⟩ := loopO_ind (step := fun s : Int × uT3 × uT0 => uF10a y s.1 s.2.1 s.2.2)
  (fun q => 0 ≤ q.1 ∧ q.1 ≤ 8 ∧ PG q.2.1 ∧ (q.2.1.Payload.length : Int) = q.1 ∧ SOk q.2.2 (k + q.1))
  (fun e => PG e.1 ∧ SOk e.2 (k + 8)) (fun q => (8 - q.1).toNat) (fun q hq => by
   obtain ⟨n, q, s⟩ := q;obtain ⟨q0, q1, q2, q3, q4⟩ := hq;simp only [] at q0 q1 q2 q3 q4;simp only [uF10a];by_cases hlt : n < y.2
   ·obtain ⟨r, e, r1, r2⟩ := range_is s 0 255 _ q4 (by omega) (by omega) (by omega) (by omega)
    obtain ⟨p1, p2, p3, p4, p5, p6, p7, p8⟩ := q2;refine .inr ⟨(n + 1, ⟨q.Type_, q.Seq, q.Time, q.Source, q.Mark, q.Payload ++ [r]⟩, ⟨s.L, s.at_ + 1⟩), ?_, ⟨by (try simp only []); omega, by (try simp only []); omega, ⟨p1, p2, p3, p4, p5, p6, by simp; omega, fun b hb => by rcases List.mem_append.1 hb with hb | hb; exact p8 b hb; simp at hb; omega⟩, by simp; omega, q4.one.up (by (try simp only []); omega)⟩, by (try simp only []); omega⟩;rw [e]; simp only [hlt, decide_true, cond_true, Option.bind_some];rw [app_of (by simp; omega) (by simp; omega), w64 (by omega) (by omega), wu8 (by omega) (by omega)];rfl
   ·exact .inl ⟨(q, s), by simp [hlt], q2, q4.up (by omega)⟩) (0, p, s) ⟨by simp, by simp, hp, by simp [hp0], by simpa using hs⟩
 exact ⟨e.1, e.2, h1, h2.1, h2.2⟩

theorem swap_is (l : List uT2) (t : Int) (h : Good l t) (hl : 2 ≤ l.length) (hl2 : l.length ≤ 100) :
  ∃ l2, (idx l ((IntKind.wrap .i64 ((IntKind.wrap .i64 (((List.length l : Int)) - ((1 : Int)))) - ((1 : Int)))))).bind (fun y376 => (idx l (IntKind.wrap .i64 (((List.length l : Int)) - ((1 : Int))))).bind fun y386 => (idx l (IntKind.wrap .i64 (((List.length l : Int)) - ((1 : Int))))).bind fun y396 =>
   bnd (l.set (Int.toNat (IntKind.wrap .i64 (((List.length l : Int)) - ((1 : Int))))) ((⟨y396.At, y376.Packet⟩ : uT2))) fun l409 => (idx l409 ((IntKind.wrap .i64 ((IntKind.wrap .i64 (((List.length l : Int)) - ((1 : Int)))) - ((1 : Int)))))).bind fun y415 =>
   bnd (l409.set (Int.toNat ((IntKind.wrap .i64 ((IntKind.wrap .i64 (((List.length l : Int)) - ((1 : Int)))) - ((1 : Int)))))) ((⟨y415.At, y386.Packet⟩ : uT2))) fun l428 => some l428) = some l2 ∧ Good l2 t ∧ l2.length = l.length := by
 have e1 : IntKind.wrap .i64 ((l.length : Int) - 1) = ((l.length - 1 : Nat) : Int) := by rw [w64 (by omega) (by omega)]; omega
 have e2 : IntKind.wrap .i64 (((l.length - 1 : Nat) : Int) - 1) = ((l.length - 2 : Nat) : Int) := by rw [w64 (by omega) (by omega)]; omega
 have i1 : l.length - 1 < l.length := by omega
 have i2 : l.length - 2 < l.length := by omega
 have g1 := h.set i1 (h.1 _ (List.getElem_mem i2)).1;have i3 : l.length - 2 < (l.set (l.length - 1) ⟨l[l.length - 1].At, l[l.length - 2].Packet⟩).length := by simpa using i2
 have g2 := g1.set i3 (h.1 _ (List.getElem_mem i1)).1;refine ⟨_, ?_, g2, by simp⟩;rw [e1, e2, idx_at i1, idx_at i2];simp only [Option.bind_some, bnd, Int.toNat_natCast];rw [idx_at i3];simp only [Option.bind_some, Int.toNat_natCast]

theorem arrivals_is (s0 : uT0) (hs0 : SOk s0 100) : ∃ s' a, uF10 s0 6 = some (s', a) ∧ a.length ≤ 24 ∧ Good a 1000 := by
 obtain ⟨sq, e1, sq1⟩ := pick_in s0 [0, 5, 65533] _ hs0 (by omega) (by simp) (by simp);obtain ⟨tm, e2, tm1⟩ := pick_in ⟨s0.L, s0.at_ + 1⟩ [0, 100, 4294967096] _ hs0.one (by omega) (by simp) (by simp);obtain ⟨at0, e3, at1, at2⟩ := range_is ⟨s0.L, s0.at_ + 1 + 1⟩ 0 50 _ hs0.one.one (by omega) (by omega) (by omega) (by omega);obtain ⟨lg, e4, lg1⟩ := pick_in ⟨s0.L, s0.at_ + 1 + 1 + 1⟩ [8, 80, 160] _ hs0.one.one.one (by omega) (by simp) (by simp);obtain ⟨m, e5, m1, m2⟩ := range_is ⟨s0.L, s0.at_ + 1 + 1 + 1 + 1⟩ 0 6 _ hs0.one.one.one.one (by omega) (by omega) (by omega) (by omega);have sq2 : 0 ≤ sq ∧ sq ≤ 65533 := by simp at sq1; omega
 have tm2 : 0 ≤ tm ∧ tm ≤ 4294967096 := by simp at tm1; omega
 have lg2 : lg = 8 ∨ lg = 80 ∨ lg = 160 := by simpa using lg1
 have hlg : IntKind.wrap .i64 (lg.tdiv 8) = lg / 8 ∧ 1 ≤ lg / 8 ∧ lg / 8 ≤ 20 := by rcases lg2 with rfl | rfl | rfl <;> decide
 obtain ⟨e, h1, h2⟩ := loopO_ind (step := fun s : List uT2 × Int × Int × Int × Int × uT0 => uF10b (⟨s0.L, s0.at_ + 1 + 1 + 1 + 1⟩, lg) (⟨s0.L, s0.at_ + 1 + 1 + 1 + 1 + 1⟩, m) s.1 s.2.1 s.2.2.1 s.2.2.2.1 s.2.2.2.2.1 s.2.2.2.2.2)
  (fun q => 0 ≤ q.2.2.2.2.1 ∧ q.2.2.2.2.1 ≤ 12 ∧ (q.1.length : Int) ≤ 2 * q.2.2.2.2.1 ∧ (0 ≤ q.2.1 ∧ q.2.1 ≤ 65533 + q.2.2.2.2.1) ∧ (0 ≤ q.2.2.1 ∧ q.2.2.1 ≤ 4294967096 + 160 * q.2.2.2.2.1) ∧
   (0 ≤ q.2.2.2.1 ∧ q.2.2.2.1 ≤ 50 + 25 * q.2.2.2.2.1) ∧ Good q.1 q.2.2.2.1 ∧ SOk q.2.2.2.2.2 (105 + 13 * q.2.2.2.2.1))
  (fun e => e.1.length ≤ 24 ∧ Good e.1 1000) (fun q => (12 - q.2.2.2.2.1).toNat) (fun q hq => by
   obtain ⟨out, seq, time, at_, n, s⟩ := q;obtain ⟨q0, q1, q2, ⟨q3, q4⟩, ⟨q5, q6⟩, ⟨q7, q8⟩, q9, q10⟩ := hq;simp only [] at q0 q1 q2 q3 q4 q5 q6 q7 q8 q9 q10;simp only [uF10b];by_cases hlt : n < m
   ·obtain ⟨c, f1, c1⟩ := pick_in s [0, 3, 8] _ q10 (by omega) (by simp) (by simp)
    have c2 : c ≤ 8 := by simp at c1; omega
    have r1 : seq.tmod 65536 = seq % 65536 := Int.tmod_eq_emod_of_nonneg q3;have r2 : time.tmod 4294967296 = time % 4294967296 := Int.tmod_eq_emod_of_nonneg q5;obtain ⟨p, s2, f2, pg, s2ok⟩ := pay_is (⟨s.L, s.at_ + 1⟩, c) c2 ⟨0, seq.tmod 65536, time.tmod 4294967296, 7, false, []⟩ ⟨s.L, s.at_ + 1⟩ _ q10.one (by omega)
     ⟨rfl, by show 0 ≤ seq.tmod 65536; rw [r1]; omega, by show seq.tmod 65536 ≤ 65535; rw [r1]; omega, by show 0 ≤ time.tmod 4294967296; rw [r2]; omega, by show time.tmod 4294967296 ≤ 4294967295; rw [r2]; omega, rfl, by simp, by simp⟩ rfl
    obtain ⟨g, f3, g1⟩ := pick_in s2 [0, 1, lg / 8, lg / 8, 25] _ s2ok (by omega) (by simp) (by simp);have g2 : 0 ≤ g ∧ g ≤ 25 := by simp at g1; omega
    obtain ⟨b1, f4⟩ := flip_is ⟨s2.L, s2.at_ + 1⟩ 5 _ s2ok.one (by omega) (by omega) (by omega);have ok4 := s2ok.one.one
    -- what is sent, late or not at all
    have mid : ∃ out2 s3, (bif b1 then (some ((out, (⟨s2.L, s2.at_ + 1 + 1⟩ : uT0)))) else ((bif (decide (((List.length out : Int)) > ((0 : Int)))) then ((uF53 ⟨s2.L, s2.at_ + 1 + 1⟩ ((5 : Int))).bind fun y306 => some (y306.2, y306.1)) else (some (false, ⟨s2.L, s2.at_ + 1 + 1⟩))).bind fun y323 => bif y323.1 then ((app 72 out (([(⟨at_ + g, p⟩ : uT2)] : List uT2))).bind fun y369 => bnd ((IntKind.wrap .i64 (((List.length y369 : Int)) - ((1 : Int))))) fun u374 => (idx y369 ((IntKind.wrap .i64 (u374 - ((1 : Int)))))).bind fun y376 => (idx y369 u374).bind fun y386 => (idx y369 u374).bind fun y396 => bnd (y369.set (Int.toNat u374) ((⟨y396.At, y376.Packet⟩ : uT2))) fun l409 => (idx l409 ((IntKind.wrap .i64 (u374 - ((1 : Int)))))).bind fun y415 => bnd (l409.set (Int.toNat ((IntKind.wrap .i64 (u374 - ((1 : Int)))))) ((⟨y415.At, y386.Packet⟩ : uT2))) fun l428 => some ((l428, y323.2))) else ((app 72 out (([(⟨at_ + g, p⟩ : uT2)] : List uT2))).bind fun y451 => some ((y451, y323.2))))) = some (out2, s3) ∧
      out2.length ≤ out.length + 1 ∧ Good out2 (at_ + g) ∧ SOk s3 (105 + 13 * n + 12) := by
     have gadd := q9.add (show at_ ≤ at_ + g by omega) (by omega) pg;have happ : app 72 out [(⟨at_ + g, p⟩ : uT2)] = some (out ++ [⟨at_ + g, p⟩]) := app_of (by simp; omega) (by simp; omega);cases b1 with
     | true => exact ⟨out, _, rfl, by omega, q9.up (by omega), ok4.up (by omega)⟩
     | false =>
      by_cases h0 : (List.length out : Int) > 0
      ·obtain ⟨b2, f5⟩ := flip_is ⟨s2.L, s2.at_ + 1 + 1⟩ 5 _ ok4 (by omega) (by omega) (by omega)
       simp only [cond_false, h0, decide_true, cond_true, f5, Option.bind_some, happ];cases b2 with
       | false => exact ⟨_, _, rfl, by simp, gadd, ok4.one.up (by omega)⟩
       | true =>
        obtain ⟨l2, w1, w2, w3⟩ := swap_is _ _ gadd (by simp; omega) (by simp; omega);refine ⟨l2, ⟨s2.L, s2.at_ + 1 + 1 + 1⟩, ?_, by rw [w3]; simp, w2, ok4.one.up (by omega)⟩;simp only [cond_true, bnd] at w1 ⊢;simp only [Option.bind_eq_some_iff] at w1 ⊢;obtain ⟨a1, x1, a2, x2, a3, x3, a4, x4, x5⟩ := w1;exact ⟨a1, x1, a2, x2, a3, x3, a4, x4, by rw [Option.some.inj x5]⟩
      ·have h0' : (decide (((List.length out : Int)) > ((0 : Int)))) = false := by simpa using h0
       simp only [cond_false, h0', Option.bind_some, happ];exact ⟨_, _, rfl, by simp, gadd, ok4.up (by omega)⟩
    obtain ⟨out2, s3, f6, o1, o2, o3⟩ := mid;have hd : (decide (n < m)) = true := by simpa using hlt
    simp only [hd, cond_true, f1, Option.bind_some, f2, hlg.1, f3, bnd];rw [w64 (n := seq + 1) (by omega) (by omega), w64 (n := time + lg) (by omega) (by omega), w64 (n := at_ + g) (by omega) (by omega), w64 (n := n + 1) (by omega) (by omega)];simp only [f4, Option.bind_some];simp only [bnd] at f6;rw [f6];simp only [Option.bind_some];by_cases h0 : (List.length out2 : Int) > 0
    ·obtain ⟨b3, f7⟩ := flip_is s3 8 _ o3 (by omega) (by omega) (by omega)
     simp only [h0, decide_true, cond_true, f7, Option.bind_some];cases b3 with
     | false => exact .inr ⟨_, rfl, ⟨by (try simp only []); omega, by (try simp only []); omega, by (try simp only []); omega, ⟨by (try simp only []); omega, by (try simp only []); omega⟩, ⟨by (try simp only []); omega, by (try simp only []); omega⟩, ⟨by (try simp only []); omega, by (try simp only []); omega⟩, o2, o3.one.up (by (try simp only []); omega)⟩, by (try simp only []); omega⟩
     | true =>
      have e9 : IntKind.wrap .i64 ((out2.length : Int) - 1) = ((out2.length - 1 : Nat) : Int) := by rw [w64 (by omega) (by omega)]; omega
      have i9 : out2.length - 1 < out2.length := by omega
      simp only [cond_true];rw [e9, idx_at i9];simp only [Option.bind_some];rw [app_of (by simp; omega) (by simp; omega)];exact .inr ⟨_, rfl, ⟨by (try simp only []); omega, by (try simp only []); omega, by simp; omega, ⟨by (try simp only []); omega, by (try simp only []); omega⟩, ⟨by (try simp only []); omega, by (try simp only []); omega⟩, ⟨by (try simp only []); omega, by (try simp only []); omega⟩, o2.add (Int.le_refl _) (by omega) (o2.1 _ (List.getElem_mem i9)).1, o3.one.up (by (try simp only []); omega)⟩, by (try simp only []); omega⟩
    ·have h0' : (decide (((List.length out2 : Int)) > ((0 : Int)))) = false := by simpa using h0
     simp only [h0', cond_false, Option.bind_some];exact .inr ⟨_, rfl, ⟨by (try simp only []); omega, by (try simp only []); omega, by (try simp only []); omega, ⟨by (try simp only []); omega, by (try simp only []); omega⟩, ⟨by (try simp only []); omega, by (try simp only []); omega⟩, ⟨by (try simp only []); omega, by (try simp only []); omega⟩, o2, o3.up (by (try simp only []); omega)⟩, by (try simp only []); omega⟩
   ·exact .inl ⟨(out, s), by simp [hlt], by (try simp only []); omega, q9.up (by omega)⟩) ([], sq, tm, at0, 0, ⟨s0.L, s0.at_ + 1 + 1 + 1 + 1 + 1⟩)
  ⟨by simp, by simp, by simp, ⟨sq2.1, by (try simp only []); omega⟩, ⟨tm2.1, by (try simp only []); omega⟩, ⟨at1, by (try simp only []); omega⟩, ⟨by simp, by simp⟩, hs0.one.one.one.one.one.up (by (try simp only []); omega)⟩
 refine ⟨e.2, e.1, ?_, h2.1, h2.2⟩;simp only [uF10, e1, Option.bind_some, e2, e3, e4, e5, h1]
theorem within_ok {n lo hi : Int} (h1 : lo ≤ n) (h2 : n ≤ hi) : uF70 n lo hi = some true := by
 have : uF70 n lo hi = some (decide (n ≥ lo) && decide (n ≤ hi)) := rfl;rw [this]; simp [h1, h2]
theorem packet_is {p : uT3} (h : PG p) : uF135 p = some 0 := by
 obtain ⟨h1, h2, h3, h4, h5, h6, h7, _⟩ := h;have hl : (decide (((List.length p.Payload : Nat) : Int) > 1000)) = false := by simp; omega
 simp only [uF135, h1, h6, within_ok (show (0 : Int) ≤ 0 by omega) (show (0 : Int) ≤ 127 by omega), within_ok h2 h3, within_ok h4 h5, within_ok (show (0 : Int) ≤ 7 by omega) (show (7 : Int) ≤ 4294967295 by omega), Option.bind_some, Bool.not_true, cond_false, hl, bnd]
theorem moment_is {n : Int} (h1 : 0 ≤ n) (h2 : n ≤ 1000) : uF134 n = some true := by
 have h3 : n < 345686400000 := by omega
 simp [uF134, bnd, h1, h3]
theorem check_is {a : List uT2} (hl : a.length ≤ 24) (h : Good a 1000) : uF71a a = some 0 := by
 have n1 : (decide (((List.length a : Nat) : Int) > 2000)) = false := by simp; omega
 have hlp : loopO (fun s : Int => uF71 a s) 0 = some (.inl ()) := by
  have := loop_for (N := a.length) (step := fun s : Int => uF71 a s) (fun k => (k : Int)) (.inl ()) (fun k hk => by
   obtain ⟨g1, g2, g3⟩ := h.1 _ (List.getElem_mem hk);have prev : (bif (decide ((k : Int) > ((0 : Int)))) then ((idx a ((IntKind.wrap .i64 ((k : Int) - ((1 : Int)))))).bind fun y56 => some ((decide (a[k].At < y56.At)))) else (some false)) = some false := by
    by_cases h0 : k = 0
    ·subst h0; simp
    ·have e : IntKind.wrap .i64 ((k : Int) - 1) = ((k - 1 : Nat) : Int) := by rw [w64 (by omega) (by omega)]; omega
     have hpos : (decide ((k : Int) > 0)) = true := by simp; omega
     have hle := List.pairwise_iff_getElem.1 h.2 (k - 1) k (by simp; omega) (by simpa using hk) (by omega);simp only [List.getElem_map] at hle;rw [hpos, e, idx_at (by omega : k - 1 < a.length)];simp only [cond_true, Option.bind_some];congr 1; simp; omega
   have h00 : 0 < a.length := by omega
   have f1 : (a[k].Packet.Source != a[0].Packet.Source) = false := by
    rw [g1.2.2.2.2.2.1, (h.1 _ (List.getElem_mem h00)).1.2.2.2.2.2.1]; rfl
   have e00 : idx a (0 : Int) = some a[0] := idx_at h00;simp only [uF71];have hlt : (decide ((k : Int) < (a.length : Int))) = true := by simp; exact hk
   rw [hlt, idx_at hk];simp only [cond_true, Option.bind_some, moment_is g2 g3, Bool.not_true, cond_false, packet_is g1, bne_self_eq_false];rw [prev];simp only [Option.bind_some, cond_false, e00, f1];rw [w64 (by omega) (by omega)];rfl) (by simp [uF71])
  simpa using this
 simp only [uF71a, n1, cond_false, hlp, lret]
/-! Keys. -/
theorem foldE_all {α R : Type} (p : α → Bool) (r : R) : ∀ (l : List α) (i : Nat), foldE (S := Unit) (E := Unit ⊕ R) (fun _ a _ => some (if p a = true then .inl () else .inr (.inr r))) (fun _ => .inl ()) i l () = some (if l.all p = true then .inl () else .inr r)
 | [], _ => by simp [foldE]
 | a :: l, i => by
  by_cases h : p a = true
  ·simp only [foldE, List.all_cons, h, if_true, Bool.true_and]; exact foldE_all p r l (i + 1)
  ·simp [foldE, List.all_cons, h]
def onlyB (s c : List UInt8) : Bool := s.all fun x => decide (Lib.indexByte c x ≥ 0)
theorem only_is (s c : List UInt8) (hs : s.length ≤ 1000) : uF176 s c = some (onlyB s c) := by
 have h := loop_list (step := fun w : Int => uF176a s c w) s (fun i (_ : Unit) => (i : Int)) (fun _ a _ => some (if decide (Lib.indexByte c a ≥ 0) = true then .inl () else .inr (.inr false))) (fun _ => .inl ()) (fun i a st hi => by
  have hlt := (List.getElem?_eq_some_iff.1 hi).1;have hd : decide ((i : Int) < (List.length s : Int)) = true := by simpa using hlt
  have ha : a.toNat.toUInt8 = a := by simp
  simp only [uF176a, hd, cond_true, idx_nat, hi, Option.bind_some, uF92, uF159, uF194, Int.toNat_natCast, ha];rw [w64 (by omega) (by omega)];by_cases hx : Lib.indexByte c a < 0
  ·have h2 : ¬ (Lib.indexByte c a ≥ 0) := by omega
   simp [hx, h2]
  ·have h2 : Lib.indexByte c a ≥ 0 := by omega
   simp [hx, h2]) (fun st => by simp [uF176a]) ()
 rw [foldE_all] at h;have h1 : loopO (fun w : Int => uF176a s c w) 0 = some (if onlyB s c = true then .inl () else .inr false) := h;simp only [uF176, h1];cases onlyB s c <;> rfl
noncomputable def onlyO (s c : List UInt8) : Option Bool := if s.length ≤ 1000 then some (onlyB s c) else uF176 s c
theorem only_eq (s c : List UInt8) : uF176 s c = onlyO s c := by
 unfold onlyO;split
 ·next h => exact only_is s c h
 ·rfl
noncomputable def keyO (x0 : List UInt8) : Option (Bool) := (uF124 ((List.length x0 : Int)) ((1 : Int)) ((40 : Int))).bind fun y1 => (bif y1 then ((sub x0 0 ((1 : Int))).bind fun y9 => (onlyO y9 (([97, 98, 99, 100, 101, 102, 103, 104, 105, 106, 107, 108, 109, 110, 111, 112, 113, 114, 115, 116, 117, 118, 119, 120, 121, 122] : List UInt8))).bind fun y11 => some y11) else (some false)).bind fun y14 => (bif y14 then ((onlyO x0 (([97, 98, 99, 100, 101, 102, 103, 104, 105, 106, 107, 108, 109, 110, 111, 112, 113, 114, 115, 116, 117, 118, 119, 120, 121, 122, 48, 49, 50, 51, 52, 53, 54, 55, 56, 57, 45, 95] : List UInt8))).bind fun y25 => some y25) else (some false)).bind fun y28 => some y28
theorem key_eq (s : List UInt8) : uF126 s = keyO s := by
 simp only [uF126, keyO, only_eq]
def nm3 : List (List UInt8) := [[109, 117], [97], [119, 105, 100, 101]]
theorem nm_all : nm3.all (fun s => keyO s == some true && uF130 s == some true) = true := by kernel_rfl
theorem nm_key {s : List UInt8} (h : s ∈ nm3) : uF126 s = some true ∧ uF130 s = some true := by
 have := List.all_eq_true.1 nm_all s h
 rw [Bool.and_eq_true, beq_iff_eq, beq_iff_eq] at this;rw [key_eq]; exact this
theorem some_in (s : uT0) (l : List (List UInt8)) (k : Int) (hs : SOk s k) (hk : k ≤ 1000000) (hl : 0 < l.length) (hl2 : l.length ≤ 1000) : ∃ r, uF51 s l = some (⟨s.L, s.at_ + 1⟩, r) ∧ r ∈ l := by
 obtain ⟨r, e, r1, r2⟩ := next_is s l.length k hs (by omega) (by omega) (by omega);obtain ⟨x, hx, hm⟩ := idx_of r1 r2;exact ⟨x, by simp [uF51, e, hx, bnd], hm⟩

/-! Codecs. -/
theorem cont_is (l : List uT1) (g : uT1 → Option Bool) (p : uT1 → Bool) (hg : ∀ a ∈ l, g a = some (p a)) (hl : l.length ≤ 1000) : uF65 l g = some (l.any p) := by
 have h : uF132 l g = some (idxI p l) := idxF_loop l g p hg (by omega);simp only [uF65, h, Option.bind_some, bnd, idxI_any]
def CG (l : List uT1) : Prop := ∀ c ∈ l, c.Name ∈ nm3
theorem in_some (a b c : Int) : uF124 a b c = some (decide (b ≤ a) && decide (a ≤ c)) := rfl
theorem within_is (n lo hi : Int) : uF70 n lo hi = some (decide (n ≥ lo) && decide (n ≤ hi)) := rfl
theorem sub0 {α : Type} (l : List α) {i : Nat} (h : i ≤ l.length) : sub l 0 (i : Int) = some (l.take i) := by
 have h1 : (0 : Int) ≤ 0 ∧ (0 : Int) ≤ (i : Int) ∧ (i : Int) ≤ l.length := ⟨by omega, by omega, by omega⟩;unfold sub;rw [if_pos h1]; simp
theorem fault_is (l : List uT1) (hl : l.length ≤ 20) (h : CG l) : ∃ r, uF59 l = some r := by
 have hn : (decide ((List.length l : Int) > 20)) = false := by simp; omega
 obtain ⟨e, h1, _⟩ := loopO_ind (step := fun s : Int => uF59a l s) (fun i => 0 ≤ i ∧ i ≤ l.length) (fun _ => True) (fun i => (l.length - i).toNat) (fun i hi => by
  obtain ⟨k, rfl⟩ := Int.eq_ofNat_of_zero_le hi.1;simp only [uF59a];by_cases hk : k < l.length
  ·have hd : decide ((k : Int) < (List.length l : Int)) = true := by simpa using hk
   have c1 := cont_is (l.take k) (fun a0 => uF125 a0 l[k]) (fun a0 => a0.Type_ == l[k].Type_) (fun _ _ => rfl) (by simp; omega);have c2 := cont_is (l.take k) (fun a0 => uF127 a0 l[k]) (fun a0 => (a0.Name == l[k].Name) && (a0.Rate == l[k].Rate)) (fun _ _ => rfl) (by simp; omega);rw [hd];simp only [cond_true, Option.bind_some, idx_at hk, in_some, sub0 l (Nat.le_of_lt hk), c1, c2, (nm_key (h _ (List.getElem_mem hk))).1, Bool.not_true, cond_false];rw [w64 (by omega) (by omega)];cases (decide (0 ≤ l[k].Type_) && decide (l[k].Type_ ≤ 127))
   ·exact .inl ⟨_, rfl, trivial⟩
   cases ((l.take k).any fun a0 => a0.Type_ == l[k].Type_)
   case true => exact .inl ⟨_, rfl, trivial⟩
   cases (decide (1000 ≤ l[k].Rate) && decide (l[k].Rate ≤ 96000))
   ·exact .inl ⟨_, rfl, trivial⟩
   cases ((l.take k).any fun a0 => (a0.Name == l[k].Name) && (a0.Rate == l[k].Rate))
   case true => exact .inl ⟨_, rfl, trivial⟩
   exact .inr ⟨(k : Int) + 1, rfl, ⟨by (try simp only []); omega, by (try simp only []); omega⟩, by (try simp only []); omega⟩
  ·have hd : decide ((k : Int) < (List.length l : Int)) = false := by simpa using hk
   exact .inl ⟨_, by rw [hd]; rfl, trivial⟩) 0 ⟨by omega, by omega⟩
 simp only [uF59, hn, cond_false, h1];cases e <;> exact ⟨_, rfl⟩
theorem check_codecs (l : List uT1) (hl : l.length ≤ 20) (h : CG l) : ∃ r, uF64 l = some r := by
 have hn : (decide ((List.length l : Int) > 20)) = false := by simp; omega
 obtain ⟨e, h1, _⟩ := loopO_ind (step := fun s : Int => uF64a l s) (fun i => 0 ≤ i ∧ i ≤ l.length) (fun _ => True) (fun i => (l.length - i).toNat) (fun i hi => by
  obtain ⟨k, rfl⟩ := Int.eq_ofNat_of_zero_le hi.1;simp only [uF64a];by_cases hk : k < l.length
  ·have hd : decide ((k : Int) < (List.length l : Int)) = true := by simpa using hk
   have c1 := cont_is (l.take k) (fun a0 => uF129 a0 l[k]) (fun a0 => a0.Type_ == l[k].Type_) (fun _ _ => rfl) (by simp; omega);have c2 := cont_is (l.take k) (fun a0 => uF131 a0 l[k]) (fun a0 => (l[k].Name == a0.Name) && (l[k].Rate == a0.Rate)) (fun _ _ => rfl) (by simp; omega);rw [hd];simp only [cond_true, Option.bind_some, idx_at hk, within_is, sub0 l (Nat.le_of_lt hk), c1, c2, (nm_key (h _ (List.getElem_mem hk))).2, Bool.not_true, cond_false];rw [w64 (by omega) (by omega)];cases (decide (l[k].Type_ ≥ 0) && decide (l[k].Type_ ≤ 127))
   ·exact .inl ⟨_, rfl, trivial⟩
   cases ((l.take k).any fun a0 => a0.Type_ == l[k].Type_)
   case true => exact .inl ⟨_, rfl, trivial⟩
   cases (decide (l[k].Rate ≥ 1000) && decide (l[k].Rate ≤ 96000))
   ·exact .inl ⟨_, rfl, trivial⟩
   cases ((l.take k).any fun a0 => (l[k].Name == a0.Name) && (l[k].Rate == a0.Rate))
   case true => exact .inl ⟨_, rfl, trivial⟩
   exact .inr ⟨(k : Int) + 1, rfl, ⟨by (try simp only []); omega, by (try simp only []); omega⟩, by (try simp only []); omega⟩
  ·have hd : decide ((k : Int) < (List.length l : Int)) = false := by simpa using hk
   exact .inl ⟨_, by rw [hd]; rfl, trivial⟩) 0 ⟨by omega, by omega⟩
 simp only [uF64, hn, cond_false, h1];cases e <;> exact ⟨_, rfl⟩
theorem clone_is (l : List uT1) (hl : l.length ≤ 1000) : uF60 l = some l := by
 have ha : app 32 ([] : List uT1) l = some l := by rw [app_of (by simp; omega) (by simp; omega)]; rfl
 unfold uF60 nilc;rw [ha];split
 ·next h => subst h; simp
 ·rfl
theorem codecs_is (s0 : uT0) (hs0 : SOk s0 0) : ∃ s' l, uF8 s0 = some (s', l) ∧ l.length ≤ 4 ∧ CG l ∧ SOk s' 16 := by
 obtain ⟨e, h1, h2⟩ := loopO_ind (step := fun s : List uT1 × Int × uT0 => uF8a s.1 s.2.1 s.2.2)
  (fun q => 0 ≤ q.2.1 ∧ q.2.1 ≤ 4 ∧ (q.1.length : Int) ≤ q.2.1 ∧ CG q.1 ∧ SOk q.2.2 (4 * q.2.1)) (fun e => e.1.length ≤ 4 ∧ CG e.1 ∧ SOk e.2 16) (fun q => (4 - q.2.1).toNat) (fun q hq => by
   obtain ⟨l, n, s⟩ := q;obtain ⟨q0, q1, q2, q3, q4⟩ := hq;simp only [] at q0 q1 q2 q3 q4;simp only [uF8a];by_cases hlt : n < 4
   ·have hd : decide (n < ((List.length ([(0 : Int), (8 : Int), (9 : Int), (96 : Int)] : List Int) : Nat) : Int)) = true := by simpa using hlt
    obtain ⟨t, ht, _⟩ := idx_of (l := [(0 : Int), (8 : Int), (9 : Int), (96 : Int)]) q0 (by simpa using hlt);obtain ⟨ty, e1, _⟩ := pick_in s [t, t, IntKind.wrap .i64 (t + 1)] _ q4 (by omega) (by simp) (by simp);obtain ⟨nm, e2, n2⟩ := some_in ⟨s.L, s.at_ + 1⟩ [[109, 117], [97], [119, 105, 100, 101]] _ q4.one (by omega) (by simp) (by simp);obtain ⟨rt, e3, _⟩ := pick_in ⟨s.L, s.at_ + 1 + 1⟩ [8000, 8000, 16000] _ q4.one.one (by omega) (by simp) (by simp);obtain ⟨b, e4⟩ := flip_is ⟨s.L, s.at_ + 1 + 1 + 1⟩ 3 _ q4.one.one.one (by omega) (by omega) (by omega);have g2 : CG (l ++ [⟨ty, rt, nm⟩]) := fun c hc => by
     rcases List.mem_append.1 hc with hc | hc
     ·exact q3 c hc
     ·simp only [List.mem_singleton] at hc; subst hc; exact n2
    obtain ⟨r, e5⟩ := fault_is (l ++ [⟨ty, rt, nm⟩]) (by simp; omega) g2;have ha : app 32 l [(⟨ty, rt, nm⟩ : uT1)] = some (l ++ [⟨ty, rt, nm⟩]) := app_of (by simp; omega) (by simp; omega);rw [hd];simp only [cond_true, ht, e1, Option.bind_some, e2, e3, e4, clone_is l (by omega), ha, e5];rw [w64 (n := n + 1) (by omega) (by omega)];have s5 : SOk ⟨s.L, s.at_ + 1 + 1 + 1 + 1⟩ (4 * (n + 1)) := q4.one.one.one.one.up (by omega);cases b
    ·simp only [Bool.not_false, cond_true, Option.bind_some]
     cases (r == 0)
     ·exact .inr ⟨_, rfl, ⟨by (try simp only []); omega, by (try simp only []); omega, by (try simp only []); omega, q3, s5⟩, by (try simp only []); omega⟩
     ·exact .inr ⟨_, rfl, ⟨by (try simp only []); omega, by (try simp only []); omega, by simp; omega, g2, s5⟩, by (try simp only []); omega⟩
    ·exact .inr ⟨_, rfl, ⟨by (try simp only []); omega, by (try simp only []); omega, by (try simp only []); omega, q3, s5⟩, by (try simp only []); omega⟩
   ·have hd : decide (n < ((List.length ([(0 : Int), (8 : Int), (9 : Int), (96 : Int)] : List Int) : Nat) : Int)) = false := by simpa using hlt
    exact .inl ⟨(l, s), by rw [hd]; rfl, by (try simp only []); omega, q3, q4.up (by omega)⟩) ([], 0, s0) ⟨by simp, by simp, by simp, fun c hc => by simp at hc, by simpa using hs0⟩
 exact ⟨e.2, e.1, by simp only [uF8, h1, Option.bind_some], h2.1, h2.2.1, h2.2.2⟩
theorem agree_is (l : List uT1) (hl : l.length ≤ 4) (h : CG l) : ∃ r, uF11 l l = some r ∧ r.1.length ≤ 4 := by
 obtain ⟨r, e1⟩ := check_codecs l (by omega) h;obtain ⟨e, h1, h2⟩ := loopO_ind (step := fun s : List uT1 × Int => uF11a l l s.1 s.2) (fun q => 0 ≤ q.2 ∧ q.2 ≤ l.length ∧ (q.1.length : Int) ≤ q.2) (fun e => e.length ≤ 4) (fun q => (l.length - q.2).toNat) (fun q hq => by
   obtain ⟨o, n⟩ := q;obtain ⟨q0, q1, q2⟩ := hq;simp only [] at q0 q1 q2;obtain ⟨k, rfl⟩ := Int.eq_ofNat_of_zero_le q0;simp only [uF11a];by_cases hk : k < l.length
   ·have hd : decide ((k : Int) < (List.length l : Int)) = true := by simpa using hk
    have c1 := cont_is l (fun a0 => uF66 a0 l[k]) (fun a0 => (l[k].Name == a0.Name) && (l[k].Rate == a0.Rate)) (fun _ _ => rfl) (by omega);rw [hd];simp only [cond_true, idx_at hk, Option.bind_some, c1, app_of (b := 32) (l := o) (m := [l[k]]) (by simp; omega) (by simp; omega)];rw [w64 (by omega) (by omega)];cases (l.any fun a0 => (l[k].Name == a0.Name) && (l[k].Rate == a0.Rate))
    ·exact .inr ⟨_, rfl, ⟨by (try simp only []); omega, by (try simp only []); omega, by (try simp only []); omega⟩, by (try simp only []); omega⟩
    ·exact .inr ⟨_, rfl, ⟨by (try simp only []); omega, by (try simp only []); omega, by simp; omega⟩, by (try simp only []); omega⟩
   ·have hd : decide ((k : Int) < (List.length l : Int)) = false := by simpa using hk
    exact .inl ⟨o, by rw [hd]; rfl, by omega⟩) ([], 0) ⟨by simp, by simp, by simp⟩
 simp only [uF11, e1, Option.bind_some, h1];cases (r != 0)
 ·simp only [cond_false]
  cases (((List.length e : Nat) : Int) == 0)
  ·exact ⟨_, rfl, h2⟩
  ·exact ⟨_, rfl, by simp⟩
 ·exact ⟨_, rfl, by simp⟩
theorem spoil_codecs (l : List uT1) (hl : l.length ≤ 1000) : ∃ r, uF12 l = some r := by
 obtain ⟨e, h1, _⟩ := loopO_ind (step := fun s : List uT1 × Int => uF12a l s.1 s.2) (fun q => 0 ≤ q.2 ∧ q.2 ≤ l.length ∧ q.1.length = l.length) (fun _ => True) (fun q => (l.length - q.2).toNat) (fun q hq => by
   obtain ⟨o, n⟩ := q;obtain ⟨q0, q1, q2⟩ := hq;simp only [] at q0 q1 q2;obtain ⟨k, rfl⟩ := Int.eq_ofNat_of_zero_le q0;simp only [uF12a];by_cases hk : k < l.length
   ·have hd : decide ((k : Int) < (List.length l : Int)) = true := by simpa using hk
    rw [hd, w64 (by omega) (by omega)];simp only [cond_true, idx_at (show k < o.length by omega), Option.bind_some, bnd];exact .inr ⟨_, rfl, ⟨by (try simp only []); omega, by (try simp only []); omega, by simp; omega⟩, by (try simp only []); omega⟩
   ·have hd : decide ((k : Int) < (List.length l : Int)) = false := by simpa using hk
    exact .inl ⟨o, by rw [hd]; rfl, trivial⟩) (l, 0) ⟨by simp, by simp, rfl⟩
 exact ⟨e, by simp only [uF12, h1, Option.bind_some]⟩
theorem eq_codecs (l : List uT1) (hl : l.length ≤ 1000) : uF22a l l = some true := by
 have := loop_for (N := l.length) (step := fun s : Int => uF22 l l s) (fun k => (k : Int)) (.inl ()) (fun k hk => by
  simp (disch := omega) [uF22, hk, idx_at hk, w64]) (by simp [uF22])
 simp only [Int.natCast_zero] at this;simp [uF22a, this, lret]
theorem odd_is (s : uT0) (k : Int) (hs : SOk s k) (hk : k ≤ 1000) : ∃ s' r, uF62 s (-32768) 32767 = some (s', r) ∧ SOk s' (k + 2) := by
 obtain ⟨b, e1⟩ := flip_is s 12 _ hs (by omega) (by omega) (by omega);simp only [uF62, e1, Option.bind_some];cases b
 ·obtain ⟨r, e2, _⟩ := range_is ⟨s.L, s.at_ + 1⟩ (-32768) 32767 _ hs.one (by omega) (by omega) (by omega) (by omega)
  simp only [cond_false, e2, Option.bind_some];exact ⟨_, _, rfl, hs.one.one.up (by omega)⟩
 ·obtain ⟨r, e2, _⟩ := pick_in ⟨s.L, s.at_ + 1⟩ [IntKind.wrap .i64 (-32768 - 1), IntKind.wrap .i64 (32767 + 1), -32768, 32767, -1099511627776, 1099511627776] _ hs.one (by omega) (by simp) (by simp)
  simp only [cond_true, e2, Option.bind_some];exact ⟨_, _, rfl, hs.one.one.up (by omega)⟩
theorem sound_is (s0 : uT0) (hs0 : SOk s0 16) : ∃ s' x, uF9 s0 9 = some (s', x) ∧ x.length ≤ 9 ∧ SOk s' 100 := by
 obtain ⟨m, e1, m1, m2⟩ := range_is s0 0 9 _ hs0 (by omega) (by omega) (by omega) (by omega);obtain ⟨e, h1, h2, h3⟩ := loopO_ind (step := fun s : List Int × Int × uT0 => uF9a (⟨s0.L, s0.at_ + 1⟩, m) s.1 s.2.1 s.2.2)
  (fun q => 0 ≤ q.2.1 ∧ q.2.1 ≤ m ∧ (q.1.length : Int) = q.2.1 ∧ SOk q.2.2 (17 + q.2.1)) (fun e => e.1.length ≤ 9 ∧ SOk e.2 26) (fun q => (m - q.2.1).toNat) (fun q hq => by
   obtain ⟨l, n, s⟩ := q;obtain ⟨q0, q1, q2, q4⟩ := hq;simp only [] at q0 q1 q2 q4;simp only [uF9a];by_cases hlt : n < m
   ·have hd : decide (n < m) = true := by simpa using hlt
    obtain ⟨t, e2, _⟩ := pick_in s [0, 0, 1, -1, 5, -7, 100, -300, 4000, -9000, 32767, -32768] _ q4 (by omega) (by simp) (by simp);rw [hd];simp only [cond_true, e2, Option.bind_some];rw [app_of (by simp; omega) (by simp; omega), w64 (by omega) (by omega)];exact .inr ⟨_, rfl, ⟨by (try simp only []); omega, by (try simp only []); omega, by simp; omega, q4.one.up (by (try simp only []); omega)⟩, by (try simp only []); omega⟩
   ·have hd : decide (n < m) = false := by simpa using hlt
    exact .inl ⟨(l, s), by rw [hd]; rfl, by (try simp only []); omega, q4.up (by omega)⟩) ([], 0, ⟨s0.L, s0.at_ + 1⟩) ⟨by simp, by simp; omega, by simp, hs0.one.up (by simp)⟩
 obtain ⟨x, s⟩ := e;simp only [] at h2 h3;simp only [uF9, e1, Option.bind_some, h1];by_cases h0 : (List.length x : Int) > 0
 ·have hd : decide ((List.length x : Int) > 0) = true := by simpa using h0
  obtain ⟨b, e3⟩ := flip_is s 25 _ h3 (by omega) (by omega) (by omega);rw [hd];simp only [cond_true, e3, Option.bind_some];cases b
  ·exact ⟨_, _, rfl, h2, h3.one.up (by omega)⟩
  ·obtain ⟨i, e4, i1, i2⟩ := next_is ⟨s.L, s.at_ + 1⟩ x.length _ h3.one (by omega) (by omega) (by omega)
   obtain ⟨s', r, e5, s5⟩ := odd_is ⟨s.L, s.at_ + 1 + 1⟩ _ h3.one.one (by omega);obtain ⟨v, e6, _⟩ := idx_of i1 i2;simp only [cond_true, e4, Option.bind_some, e5, e6, bnd];exact ⟨_, _, rfl, by simpa using h2, s5.up (by omega)⟩
 ·have hd : decide ((List.length x : Int) > 0) = false := by simpa using h0
  rw [hd];exact ⟨_, _, rfl, h2, h3.up (by omega)⟩
theorem isSample_some (n : Int) : uF133 n = some (decide (n ≥ -32768) && decide (n ≤ 32767)) := rfl
theorem check_samples (x : List Int) (hl : x.length ≤ 1000) : ∃ r, uF68 x = some r := by
 have hn : (decide ((List.length x : Int) > 20000)) = false := by simp; omega
 obtain ⟨e, h1, _⟩ := loopO_ind (step := fun s : Int => uF68a x s) (fun i => 0 ≤ i ∧ i ≤ x.length) (fun _ => True) (fun i => (x.length - i).toNat) (fun i hi => by
  obtain ⟨k, rfl⟩ := Int.eq_ofNat_of_zero_le hi.1;simp only [uF68a];by_cases hk : k < x.length
  ·have hd : decide ((k : Int) < (List.length x : Int)) = true := by simpa using hk
   rw [hd];simp only [cond_true, Option.bind_some, idx_at hk, isSample_some];rw [w64 (by omega) (by omega)];cases (decide (x[k] ≥ -32768) && decide (x[k] ≤ 32767))
   ·exact .inl ⟨_, rfl, trivial⟩
   exact .inr ⟨(k : Int) + 1, rfl, ⟨by (try simp only []); omega, by (try simp only []); omega⟩, by (try simp only []); omega⟩
  ·have hd : decide ((k : Int) < (List.length x : Int)) = false := by simpa using hk
   exact .inl ⟨_, by rw [hd]; rfl, trivial⟩) 0 ⟨by omega, by omega⟩
 simp only [uF68, hn, cond_false, h1];cases e <;> exact ⟨_, rfl⟩
theorem cut_some (n : Int) : uF69 n = some (gmin (gmax n (-32768)) 32767) := rfl
theorem spoil_ints (l : List Int) (hl : l.length ≤ 1000) : ∃ r, uF14 l = some r := by
 obtain ⟨e, h1, _⟩ := loopO_ind (step := fun s : List Int × Int => uF14a l s.1 s.2) (fun q => 0 ≤ q.2 ∧ q.2 ≤ l.length ∧ q.1.length = l.length) (fun _ => True) (fun q => (l.length - q.2).toNat) (fun q hq => by
   obtain ⟨o, n⟩ := q;obtain ⟨q0, q1, q2⟩ := hq;simp only [] at q0 q1 q2;obtain ⟨k, rfl⟩ := Int.eq_ofNat_of_zero_le q0;simp only [uF14a];by_cases hk : k < l.length
   ·have hd : decide ((k : Int) < (List.length l : Int)) = true := by simpa using hk
    rw [hd, w64 (by omega) (by omega)];simp only [cond_true, idx_at (show k < o.length by omega), Option.bind_some, bnd];exact .inr ⟨_, rfl, ⟨by (try simp only []); omega, by (try simp only []); omega, by simp; omega⟩, by (try simp only []); omega⟩
   ·have hd : decide ((k : Int) < (List.length l : Int)) = false := by simpa using hk
    exact .inl ⟨o, by rw [hd]; rfl, trivial⟩) (l, 0) ⟨by simp, by simp, rfl⟩
 exact ⟨e, by simp only [uF14, h1, Option.bind_some]⟩
theorem spoil_bytes (l : List Int) (hl : l.length ≤ 1000) : ∃ r, uF18 l = some r := by
 obtain ⟨e, h1, _⟩ := loopO_ind (step := fun s : List Int × Int => uF18a l s.1 s.2) (fun q => 0 ≤ q.2 ∧ q.2 ≤ l.length ∧ q.1.length = l.length) (fun _ => True) (fun q => (l.length - q.2).toNat) (fun q hq => by
   obtain ⟨o, n⟩ := q;obtain ⟨q0, q1, q2⟩ := hq;simp only [] at q0 q1 q2;obtain ⟨k, rfl⟩ := Int.eq_ofNat_of_zero_le q0;simp only [uF18a];by_cases hk : k < l.length
   ·have hd : decide ((k : Int) < (List.length l : Int)) = true := by simpa using hk
    rw [hd, w64 (by omega) (by omega)];simp only [cond_true, idx_at (show k < o.length by omega), Option.bind_some, bnd];exact .inr ⟨_, rfl, ⟨by (try simp only []); omega, by (try simp only []); omega, by simp; omega⟩, by (try simp only []); omega⟩
   ·have hd : decide ((k : Int) < (List.length l : Int)) = false := by simpa using hk
    exact .inl ⟨o, by rw [hd]; rfl, trivial⟩) (l, 0) ⟨by simp, by simp, rfl⟩
 exact ⟨e, by simp only [uF18, h1, Option.bind_some]⟩
theorem eq_ints (x : List Int) (hl : x.length ≤ 20000) : uF23a x x = some true := by
 have := loop_for (N := x.length) (step := fun s : Int => uF23 x x s) (fun k => (k : Int)) (.inl ()) (fun k hk => by
  simp (disch := omega) [uF23, hk, idx_at hk, w64]) (by simp [uF23])
 simp only [Int.natCast_zero] at this;simp [uF23a, this, lret]
theorem eq_bytes (x : List Int) (hl : x.length ≤ 20000) : uF75a x x = some true := by
 have := loop_for (N := x.length) (step := fun s : Int => uF75 x x s) (fun k => (k : Int)) (.inl ()) (fun k hk => by
  simp (disch := omega) [uF75, hk, idx_at hk, w64]) (by simp [uF75])
 simp only [Int.natCast_zero] at this;simp [uF75a, this, lret]

theorem mix2_is (x : List Int) (o : List Int) (hl : x.length ≤ 9) (ho : o.length = x.length) : ∃ r, loopO (fun s : List Int × Int => uF13b x s.1 s.2) (o, 0) = some r ∧ r.length = x.length :=
 loopO_ind (step := fun s : List Int × Int => uF13b x s.1 s.2) (fun q => 0 ≤ q.2 ∧ q.2 ≤ x.length ∧ q.1.length = x.length) (fun e => e.length = x.length) (fun q => (x.length - q.2).toNat) (fun q hq => by
   obtain ⟨o, n⟩ := q
   obtain ⟨q0, q1, q2⟩ := hq
   simp only [] at q0 q1 q2
   obtain ⟨k, rfl⟩ := Int.eq_ofNat_of_zero_le q0
   simp only [uF13b]
   by_cases hk : k < x.length
   ·have hd : decide ((k : Int) < (List.length x : Int)) = true := by simpa using hk
    rw [hd]
    simp only [cond_true, idx_at hk, idx_at (show k < o.length by omega), Option.bind_some, bnd]
    rw [w64 (n := (k : Int) + 1) (by omega) (by omega)]
    exact .inr ⟨_, rfl, ⟨by (try simp only []); omega, by (try simp only []); omega, by simp; omega⟩, by (try simp only []); omega⟩
   ·have hd : decide ((k : Int) < (List.length x : Int)) = false := by simpa using hk
    exact .inl ⟨o, by rw [hd]; rfl, q2⟩) (o, 0) ⟨by simp, by simp, ho⟩
theorem mix3_is (x : List Int) (hl : x.length ≤ 9) : ∃ r, loopO (fun s : List Int × Int => uF13c x s.1 s.2) (x, 0) = some r ∧ r.length = x.length :=
 loopO_ind (step := fun s : List Int × Int => uF13c x s.1 s.2) (fun q => 0 ≤ q.2 ∧ q.2 ≤ x.length ∧ q.1.length = x.length) (fun e => e.length = x.length) (fun q => (x.length - q.2).toNat) (fun q hq => by
   obtain ⟨o, n⟩ := q
   obtain ⟨q0, q1, q2⟩ := hq
   simp only [] at q0 q1 q2
   obtain ⟨k, rfl⟩ := Int.eq_ofNat_of_zero_le q0
   simp only [uF13c]
   by_cases hk : k < x.length
   ·have hd : decide ((k : Int) < (List.length x : Int)) = true := by simpa using hk
    rw [hd, w64 (by omega) (by omega)]
    simp only [cond_true, idx_at (show k < o.length by omega), cut_some, Option.bind_some, bnd]
    exact .inr ⟨_, rfl, ⟨by (try simp only []); omega, by (try simp only []); omega, by simp; omega⟩, by (try simp only []); omega⟩
   ·have hd : decide ((k : Int) < (List.length x : Int)) = false := by simpa using hk
    exact .inl ⟨o, by rw [hd]; rfl, q2⟩) (x, 0) ⟨by simp, by simp, rfl⟩
theorem mix_is (x : List Int) (hl : x.length ≤ 9) : ∃ r, uF13d [x] = some r ∧ r.1.length ≤ 9 := by
 obtain ⟨c, e1⟩ := check_samples x (by omega);have hn : (decide ((List.length [x] : Int) > 20)) = false := rfl;have e0 : ∃ e, loopO (fun s : Int × Int => uF13 [x] s.1 s.2) (0, 0) = some e ∧ (e = .inl (x.length : Int) ∨ e = .inr ([], c)) := by
  by_cases hc : c = 0
  ·subst hc
   have m0 : gmax 0 (x.length : Int) = x.length := by unfold gmax; split <;> omega
   refine ⟨.inl (x.length : Int), loop_for (N := 1) (step := fun s : Int × Int => uF13 [x] s.1 s.2) (fun k => (if k = 0 then 0 else (x.length : Int), (k : Int))) _ (fun k hk => ?_) (by simp [uF13]), .inl rfl⟩;obtain rfl : k = 0 := by omega
   simp [uF13, idx, e1, bnd, m0]; exact w64 (by omega) (by omega)
  ·refine ⟨.inr ([], c), loopO_of (n := 1) ?_, .inr rfl⟩
   have hb : (c != 0) = true := by simpa using hc
   have : uF13 [x] 0 0 = some (.inr (.inr ([], c))) := by simp [uF13, idx, e1, hb]
   simp only [loopF, this]
 obtain ⟨e, e2, e3⟩ := e0;simp only [uF13d, hn, cond_false, e2];rcases e3 with rfl | rfl
 ·simp only [lret]
  rw [mkN_of (by omega) (by omega) (by omega)];obtain ⟨r2, f2, l2⟩ := mix2_is x (List.replicate x.length 0) hl (by simp);have e4 : loopO (fun s : List Int × Int => uF13a [x] s.1 s.2) (List.replicate x.length 0, 0) = some r2 := by
   refine loop_for (N := 1) (step := fun s : List Int × Int => uF13a [x] s.1 s.2) (fun k => (if k = 0 then List.replicate x.length 0 else r2, (k : Int))) _ (fun k hk => ?_) (by simp [uF13a]);obtain rfl : k = 0 := by omega
   simp [uF13a, idx, f2]; exact w64 (by omega) (by omega)
  obtain ⟨r3, f3, l3⟩ := mix3_is r2 (by omega);simp only [Int.toNat_natCast, Option.bind_some, e4, f3];exact ⟨_, rfl, by simp only []; omega⟩
 ·exact ⟨_, rfl, by simp⟩
theorem louder_is (x : List Int) (hl : x.length ≤ 9) : ∃ r, uF15 x 256 = some r ∧ r.1.length ≤ 9 := by
 obtain ⟨c, e1⟩ := check_samples x (by omega);simp only [uF15, e1, Option.bind_some];cases (c != 0)
 ·rw [mkN_of (by omega) (by omega) (by omega)]
  obtain ⟨e, h1, h2⟩ := loopO_ind (step := fun s : List Int × Int => uF15a x 256 s.1 s.2) (fun q => 0 ≤ q.2 ∧ q.2 ≤ x.length ∧ q.1.length = x.length) (fun e => e.length = x.length) (fun q => (x.length - q.2).toNat) (fun q hq => by
   obtain ⟨o, n⟩ := q;obtain ⟨q0, q1, q2⟩ := hq;simp only [] at q0 q1 q2;obtain ⟨k, rfl⟩ := Int.eq_ofNat_of_zero_le q0;simp only [uF15a];by_cases hk : k < x.length
   ·have hd : decide ((k : Int) < (List.length x : Int)) = true := by simpa using hk
    rw [hd];simp only [cond_true, idx_at hk, idx_at (show k < o.length by omega), cut_some, Option.bind_some, bnd];rw [w64 (n := (k : Int) + 1) (by omega) (by omega)];exact .inr ⟨_, rfl, ⟨by (try simp only []); omega, by (try simp only []); omega, by simp; omega⟩, by (try simp only []); omega⟩
   ·have hd : decide ((k : Int) < (List.length x : Int)) = false := by simpa using hk
    exact .inl ⟨o, by rw [hd]; rfl, q2⟩) (List.replicate x.length 0, 0) ⟨by simp, by simp, by simp⟩
  simp only [cond_false, within_is, Int.toNat_natCast, Option.bind_some, h1];exact ⟨_, rfl, by simp only []; omega⟩
 ·exact ⟨_, rfl, by simp⟩
def exA (b : Int) : Int := (uF73 b).getD 0
theorem exp_all : (List.range 256).all (fun n => (uF73 (n : Int)).isSome) = true := by kernel_rfl
theorem exp_is (b : Int) (h : 0 ≤ b ∧ b ≤ 255) : uF73 b = some (exA b) := by
 obtain ⟨n, rfl⟩ := Int.eq_ofNat_of_zero_le h.1
 have := List.all_eq_true.1 exp_all n (List.mem_range.2 (by omega))
 obtain ⟨v, e⟩ := Option.isSome_iff_exists.1 this;unfold exA;rw [e]; rfl
theorem apart_some (a b : Int) : ∃ r, uF72 a b = some r := by
 simp only [uF72, bnd];cases (decide (gand IntKind.i64 (IntKind.wrap .i64 (a - b)) 4294967295 ≥ 2147483648)) <;> exact ⟨_, rfl⟩
theorem play1_is (p : uT2) (y : Int) (hp : PG p.Packet) (u : List Int) (v : List Bool) (hu : u.length = 160) (hv : v.length = 160) :
  ∃ r, loopO (fun s : List Int × List Bool × Int => uF16a p y s.1 s.2.1 s.2.2) (u, v, 0) = some r ∧ r.1.length = 160 ∧ r.2.length = 160 :=
 loopO_ind (step := fun s : List Int × List Bool × Int => uF16a p y s.1 s.2.1 s.2.2) (fun q => 0 ≤ q.2.2 ∧ q.2.2 ≤ p.Packet.Payload.length ∧ q.1.length = 160 ∧ q.2.1.length = 160) (fun e => e.1.length = 160 ∧ e.2.length = 160) (fun q => (p.Packet.Payload.length - q.2.2).toNat) (fun q hq => by
   obtain ⟨o, v, n⟩ := q
   obtain ⟨q0, q1, q2, q3⟩ := hq
   simp only [] at q0 q1 q2 q3
   obtain ⟨k, rfl⟩ := Int.eq_ofNat_of_zero_le q0
   have hp8 := hp.2.2.2.2.2.2.1
   simp only [uF16a]
   by_cases hk : k < p.Packet.Payload.length
   ·have hd : decide ((k : Int) < (List.length p.Packet.Payload : Int)) = true := by simpa using hk
    rw [hd]
    have hx := exp_is _ (hp.2.2.2.2.2.2.2 _ (List.getElem_mem hk))
    simp only [cond_true, idx_at hk, Option.bind_some, bnd, hx]
    rw [w64 (n := (k : Int) + 1) (by omega) (by omega)]
    generalize IntKind.wrap .i64 (y + (k : Int)) = w
    by_cases hw : 0 ≤ w ∧ w < 160
    ·have c1 : decide (w ≥ 0) = true := by simpa using hw.1
     have c2 : decide (w < ((List.length o : Nat) : Int)) = true := by simp; omega
     obtain ⟨m, rfl⟩ := Int.eq_ofNat_of_zero_le hw.1
     simp only [c1, c2, Bool.and_true, cond_true, idx_at (show m < v.length by omega), idx_at (show m < o.length by omega), Option.bind_some]
     cases v[m]
     ·exact .inr ⟨_, rfl, ⟨by (try simp only []); omega, by (try simp only []); omega, by simp; omega, by simp; omega⟩, by (try simp only []); omega⟩
     ·exact .inr ⟨_, rfl, ⟨by (try simp only []); omega, by (try simp only []); omega, q2, q3⟩, by (try simp only []); omega⟩
    ·have c1 : (decide (w ≥ 0) && decide (w < ((List.length o : Nat) : Int))) = false := by
      rw [q2]; simp; omega
     simp only [c1, cond_false, Option.bind_some];exact .inr ⟨_, rfl, ⟨by (try simp only []); omega, by (try simp only []); omega, q2, q3⟩, by (try simp only []); omega⟩
   ·have hd : decide ((k : Int) < (List.length p.Packet.Payload : Int)) = false := by simpa using hk
    exact .inl ⟨(o, v), by rw [hd]; rfl, q2, q3⟩) (u, v, 0) ⟨by simp, by simp, hu, hv⟩
theorem play0_is (a : List uT2) (hl : a.length ≤ 24) (h : Good a 1000) (u : List Int) (v : List Bool) (hu : u.length = 160) (hv : v.length = 160) :
  ∃ r, loopO (fun s : List Int × List Bool × Int => uF16 a 20 s.1 s.2.1 s.2.2) (u, v, 0) = some r ∧ r.1.length = 160 ∧ r.2.length = 160 :=
 loopO_ind (step := fun s : List Int × List Bool × Int => uF16 a 20 s.1 s.2.1 s.2.2) (fun q => 0 ≤ q.2.2 ∧ q.2.2 ≤ a.length ∧ q.1.length = 160 ∧ q.2.1.length = 160) (fun e => e.1.length = 160 ∧ e.2.length = 160) (fun q => (a.length - q.2.2).toNat) (fun q hq => by
   obtain ⟨o, v, n⟩ := q
   obtain ⟨q0, q1, q2, q3⟩ := hq
   simp only [] at q0 q1 q2 q3
   obtain ⟨k, rfl⟩ := Int.eq_ofNat_of_zero_le q0
   simp only [uF16]
   by_cases hk : k < a.length
   ·have hd : decide ((k : Int) < (List.length a : Int)) = true := by simpa using hk
    have i0 : idx a 0 = some a[0] := idx_at (k := 0) (by omega)
    obtain ⟨y, e1⟩ := apart_some a[k].Packet.Time a[0].Packet.Time
    rw [hd]
    simp only [cond_true, idx_at hk, i0, Option.bind_some, e1]
    rw [w64 (n := (k : Int) + 1) (by omega) (by omega)]
    generalize decide (a[k].At > IntKind.wrap .i64 (IntKind.wrap .i64 (a[0].At + 20) + y.fdiv (2 ^ 3))) = c
    cases c
    ·obtain ⟨r, f1, f2, f3⟩ := play1_is a[k] y (h.1 _ (List.getElem_mem hk)).1 o v q2 q3
     simp only [cond_false, f1, Option.bind_some]
     exact .inr ⟨(r.1, r.2, (k : Int) + 1), rfl, ⟨by (try simp only []); omega, by (try simp only []); omega, f2, f3⟩, by (try simp only []); omega⟩
    ·exact .inr ⟨_, rfl, ⟨by (try simp only []); omega, by (try simp only []); omega, q2, q3⟩, by (try simp only []); omega⟩
   ·have hd : decide ((k : Int) < (List.length a : Int)) = false := by simpa using hk
    exact .inl ⟨(o, v), by rw [hd]; rfl, q2, q3⟩) (u, v, 0) ⟨by simp, by simp, hu, hv⟩
theorem play2_is (u : List Int) (v : List Bool) (hu : u.length = 160) (hv : v.length = 160) :
  ∃ r, loopO (fun s : List Int × Int => uF16b u v s.1 s.2) (u, 0) = some r ∧ r.length = 160 :=
 loopO_ind (step := fun s : List Int × Int => uF16b u v s.1 s.2) (fun q => 0 ≤ q.2 ∧ q.2 ≤ 160 ∧ q.1.length = 160) (fun e => e.length = 160) (fun q => (160 - q.2).toNat) (fun q hq => by
   obtain ⟨o, n⟩ := q
   obtain ⟨q0, q1, q2⟩ := hq
   simp only [] at q0 q1 q2
   obtain ⟨k, rfl⟩ := Int.eq_ofNat_of_zero_le q0
   simp only [uF16b]
   by_cases hk : k < 160
   ·have hd : decide ((k : Int) < (List.length u : Int)) = true := by simp; omega
    have hn : decide ((k : Int) ≥ 160) = false := by simp; omega
    rw [hd]
    simp only [cond_true, idx_at (show k < v.length by omega), Option.bind_some, hn, Bool.and_false, cond_false]
    rw [w64 (n := (k : Int) + 1) (by omega) (by omega)]
    exact .inr ⟨_, rfl, ⟨by (try simp only []); omega, by (try simp only []); omega, q2⟩, by (try simp only []); omega⟩
   ·have hd : decide ((k : Int) < (List.length u : Int)) = false := by simp; omega
    exact .inl ⟨o, by rw [hd]; rfl, q2⟩) (u, 0) ⟨by simp, by simp, hu⟩
theorem play_is (a : List uT2) (hl : a.length ≤ 24) (h : Good a 1000) : ∃ r, uF16c a 20 20 = some r := by
 obtain ⟨⟨u, v⟩, e1, e2, e3⟩ := play0_is a hl h (List.replicate 160 0) (List.replicate 160 false) (by simp) (by simp);obtain ⟨r, e4, _⟩ := play2_is u v e2 e3;have w1 : IntKind.wrap .i64 (8 * 20) = 160 := by decide
 have m1 : mkN 8 160 (0 : Int) = some (List.replicate 160 0) := mkN_of (by omega) (by decide) (by omega);have m2 : mkN 1 (((List.replicate 160 (0 : Int)).length : Nat) : Int) false = some (List.replicate 160 false) := by
  rw [List.length_replicate]; exact mkN_of (by omega) (by decide) (by omega)
 have v1 : uF70 20 0 10000 = some true := rfl;have v2 : uF70 20 0 2500 = some true := rfl;simp only [uF16c, check_is hl h, Option.bind_some, v1, v2, w1, m1, m2, e1, e4, bne_self_eq_false, cond_false, Bool.not_true];exact ⟨_, rfl⟩
def pkt : List Int := [128, 0, 0, 1, 0, 0, 0, 2, 0, 0, 0, 3, 9, 8]
theorem get1 : uF74 [0, 1] = some 1 := by
 have : loopO (fun s : Int × Int => uF74a [0, 1] s.1 s.2) (0, 0) = some 1 := loopO_of (n := 6) rfl;simp [uF74, this]
theorem get2 : uF74 [0, 0, 0, 2] = some 2 := by
 have : loopO (fun s : Int × Int => uF74a [0, 0, 0, 2] s.1 s.2) (0, 0) = some 2 := loopO_of (n := 6) rfl;simp [uF74, this]
theorem get3 : uF74 [0, 0, 0, 3] = some 3 := by
 have : loopO (fun s : Int × Int => uF74a [0, 0, 0, 3] s.1 s.2) (0, 0) = some 3 := loopO_of (n := 6) rfl;simp [uF74, this]
theorem read_is : uF17 pkt = some (⟨0, 1, 2, 3, false, [9, 8]⟩, 0) := by
 have s1 : sub pkt 2 4 = some [0, 1] := rfl;have s2 : sub pkt 4 8 = some [0, 0, 0, 2] := rfl;have s3 : sub pkt 8 12 = some [0, 0, 0, 3] := rfl;have s4 : sub pkt 12 (List.length pkt) = some [9, 8] := rfl;have i0 : idx pkt 0 = some 128 := rfl;have i1 : idx pkt 1 = some 0 := rfl;have a1 : app 1 ([] : List Int) [9, 8] = some [9, 8] := rfl;have c1 : (decide (((List.length pkt : Nat) : Int) < 12)) = false := rfl;have c2 : (decide (IntKind.wrap .i64 (((List.length pkt : Nat) : Int) - 12) > 1000)) = false := by decide
 have c3 : IntKind.wrap .i64 (gand .u8 0 127) = 0 := by decide
 simp only [uF17, s1, s2, s3, s4, i0, i1, a1, c1, c2, c3, get1, get2, get3, cond_false, Option.bind_some];rfl
theorem same_is (a : uT2) (h : a.Packet.Payload.length ≤ 1000) : uF20 a a = some true := by
 have h1 : uF21 a.Packet a.Packet = some true := by
  simp only [uF21, BEq.rfl, Bool.and_true, cond_true, eq_bytes _ (show a.Packet.Payload.length ≤ 20000 by omega), Option.bind_some]
 simp only [uF20, h1, BEq.rfl, cond_true, Option.bind_some]
theorem eq_arrivals (a : List uT2) (hl : a.length ≤ 24) (h : Good a 1000) : uF19a a a (fun a0 a1 => uF20 a0 a1) = some true := by
 have := loop_for (N := a.length) (step := fun s : Int => uF19 a a (fun a0 a1 => uF20 a0 a1) s) (fun k => (k : Int)) (.inl ()) (fun k hk => by
  have h8 := (h.1 _ (List.getElem_mem hk)).1.2.2.2.2.2.2.1;simp (disch := omega) [uF19, hk, idx_at hk, same_is a[k] (by omega), w64]) (by simp [uF19])
 simp only [Int.natCast_zero] at this;simp [uF19a, this, lret]
theorem law_MediasStay (l : List Int) (hl : l.length ≤ 4611686018427387904) : uF3 l = some true := by
 have hs : SOk ⟨l, 0⟩ 0 := ⟨hl, Int.le_refl _, Int.le_refl _⟩;obtain ⟨s1, c, e1, c1, c2, c3⟩ := codecs_is ⟨l, 0⟩ hs;obtain ⟨s2, x, e2, x1, x2⟩ := sound_is s1 c3;obtain ⟨s3, a, e3, a1, a2⟩ := arrivals_is s2 x2;obtain ⟨g, e4, g1⟩ := agree_is c c1 c2;obtain ⟨_, e5⟩ := spoil_codecs g.1 (by omega);obtain ⟨m, e6, m1⟩ := mix_is x x1;obtain ⟨_, e7⟩ := spoil_ints m.1 (by omega);obtain ⟨n, e8, n1⟩ := louder_is x x1;obtain ⟨_, e9⟩ := spoil_ints n.1 (by omega);obtain ⟨p, f1⟩ := play_is a a1 a2;obtain ⟨b, f2⟩ := spoil_bytes [9, 8] (by simp);have f3 := read_is;unfold pkt at f3;have f4 : idx [(128 : Int), 0, 0, 1, 0, 0, 0, 2, 0, 0, 0, 3, 9, 8] 12 = some 9 := rfl;simp only [uF3, e1, e2, e3, Option.bind_some, e4, e5, e6, e7, e8, e9, f1, f3, f2, f4, eq_arrivals a a1 a2, eq_codecs c (by omega), eq_ints x (by omega), uF24, BEq.rfl, cond_true, Bool.and_true]
end Go.Proofs.YtoclmbbfdokbhaaGreatDoor
