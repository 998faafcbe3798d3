/-
  EachSecondOnce: what is drawn: records.
-/
import Derived.Test.YtagbgmkocjfanaaGreatDoorHM3Aa
import Derived.Test.YtagbgmkocjfanaaGreatDoorHM3Absc
import Derived.KernelRfl
namespace Go.Proofs.YtagbgmkocjfanaaGreatDoor
open Go Go.Abs
set_option maxRecDepth 100000
set_option maxHeartbeats 1000000
theorem below_is (x n : Int) (h1 : 1 ≤ n) (h2 : n ≤ 4611686018427387904) : uF104 x n = some (x % n) := by
 have hn : ¬ n < 1 := by omega
 have hn0 : n ≠ 0 := by omega
 have hlt : x.tmod n < n := Int.tmod_lt_of_pos _ (by omega);have hgt : -n < x.tmod n := by
  have := Int.tmod_lt_of_pos (-x) (b := n) (by omega)
  rw [Int.neg_tmod] at this; omega
 rw [emod_tmod x n h1];by_cases h : x.tmod n < 0
 ·simp (disch := omega) [uF104, hn, grem, hn0, h, bnd, w64]
 ·simp [uF104, hn, grem, hn0, h, bnd]
def SOk (s : uT1) (k : Int) : Prop := s.L.length ≤ 4611686018427387904 ∧ 0 ≤ s.at_ ∧ s.at_ ≤ k
theorem next_is (s : uT1) (n k : Int) (hs : SOk s k) (hk : k ≤ 4611686018427387904) (h1 : 1 ≤ n) (h2 : n ≤ 4611686018427387904) :
  ∃ r, uF50 s n = some (⟨s.L, s.at_ + 1⟩, r) ∧ 0 ≤ r ∧ r < n := by
 obtain ⟨hl, ha, hb⟩ := hs;have e1 : IntKind.wrap .i64 (s.at_ + 1) = s.at_ + 1 := w64 (by omega) (by omega);have hm : ∀ x : Int, 0 ≤ x % n ∧ x % n < n := fun x => ⟨Int.emod_nonneg _ (by omega), Int.emod_lt_of_pos _ (by omega)⟩;unfold uF50;rw [e1];by_cases h0 : s.L.length = 0
 ·have hz : (s.L.length : Int) = 0 := by omega
  simp [hz, below_is _ _ h1 h2];exact hm _
 ·have hz : ¬ ((s.L.length : Int) = 0) := by omega
  have e2 : IntKind.wrap .i64 (s.at_ + 1 - 1) = s.at_ := by rw [w64] <;> omega
  have hi : 0 ≤ s.at_.tmod s.L.length ∧ s.at_.tmod s.L.length < s.L.length := ⟨Int.tmod_nonneg _ ha, Int.tmod_lt_of_pos _ (by omega)⟩;obtain ⟨x, hx, _⟩ := idx_of hi.1 hi.2;rw [e2];have hne : s.L ≠ [] := by rintro q; simp [q] at h0
  have hb : ((s.L.length : Int) == 0) = false := by simp [hne]
  simp [hb, hne, grem, gquo, hx, below_is _ _ h1 h2, below_is _ 1073741824 (by omega) (by omega)];exact hm _
theorem range_is (s : uT1) (lo hi k : Int) (hs : SOk s k) (hk : k ≤ 4611686018427387904) (h1 : lo ≤ hi) (h2 : -1000000000000 ≤ lo) (h3 : hi ≤ 1000000000000) :
  ∃ r, uF73 s lo hi = some (⟨s.L, s.at_ + 1⟩, r) ∧ lo ≤ r ∧ r ≤ hi := by
 obtain ⟨r, e, r1, r2⟩ := next_is s (hi - lo + 1) k hs hk (by omega) (by omega);have hlt : ¬ hi < lo := by omega
 refine ⟨lo + r, ?_, by omega, by omega⟩;simp (disch := omega) [uF73, hlt, w64, e, bnd]

theorem SOk.up {s : uT1} {k m : Int} (h : SOk s k) (e : k ≤ m) : SOk s m := ⟨h.1, h.2.1, Int.le_trans h.2.2 e⟩
theorem SOk.one {s : uT1} {k : Int} (h : SOk s k) : SOk ⟨s.L, s.at_ + 1⟩ (k + 1) := by
 obtain ⟨a, b, c⟩ := h;exact ⟨a, by (try simp only []); omega, by (try simp only []); omega⟩
theorem some_in (s : uT1) (l : List (List UInt8)) (k : Int) (hs : SOk s k) (hk : k ≤ 1000000) (hl : 0 < l.length) (hl2 : l.length ≤ 1000) : ∃ r, uF45 s l = some (⟨s.L, s.at_ + 1⟩, r) ∧ r ∈ l := by
 obtain ⟨r, e, r1, r2⟩ := next_is s l.length k hs (by omega) (by omega) (by omega);obtain ⟨x, hx, hm⟩ := idx_of r1 r2;exact ⟨x, by simp [uF45, e, hx, bnd], hm⟩

theorem pick_in (s : uT1) (l : List Int) (k : Int) (hs : SOk s k) (hk : k ≤ 1000000) (hl : 0 < l.length) (hl2 : l.length ≤ 1000) : ∃ r, uF27 s l = some (⟨s.L, s.at_ + 1⟩, r) ∧ r ∈ l := by
 obtain ⟨r, e, r1, r2⟩ := next_is s l.length k hs (by omega) (by omega) (by omega);obtain ⟨x, hx, hm⟩ := idx_of r1 r2;exact ⟨x, by simp [uF27, e, hx], hm⟩
theorem flip_is (s : uT1) (n k : Int) (hs : SOk s k) (hk : k ≤ 1000000) (h1 : 1 ≤ n) (h2 : n ≤ 1000) : ∃ b, uF51 s n = some (⟨s.L, s.at_ + 1⟩, b) := by
 obtain ⟨r, e, r1, r2⟩ := next_is s n k hs (by omega) (by omega) (by omega);exact ⟨r == 0, by simp [uF51, e, bnd]⟩

theorem odd_is (s : uT1) (lo hi k : Int) (hs : SOk s k) (hk : k ≤ 100000) (h1 : -1000 ≤ lo) (h2 : lo ≤ hi) (h3 : hi ≤ 1000) :
  ∃ s' r, uF106 s lo hi = some (s', r) ∧ SOk s' (k + 2) ∧ (r = -1099511627776 ∨ r = 1099511627776 ∨ lo - 1 ≤ r ∧ r ≤ hi + 1) := by
 obtain ⟨b, e1⟩ := flip_is s 12 k hs (by omega) (by omega) (by omega);simp only [uF106, e1, Option.bind_some];cases b with
 | true =>
  obtain ⟨r, e2, r1⟩ := pick_in ⟨s.L, s.at_ + 1⟩ [IntKind.wrap .i64 (lo - 1), IntKind.wrap .i64 (hi + 1), lo, hi, -1099511627776, 1099511627776] _ hs.one (by omega) (by simp) (by simp);rw [w64 (by omega) (by omega), w64 (by omega) (by omega)] at e2 r1;simp only [cond_true];rw [w64 (by omega) (by omega), w64 (by omega) (by omega), e2];refine ⟨_, r, rfl, hs.one.one.up (by (try simp only []); omega), ?_⟩;simp at r1; omega
 | false =>
  obtain ⟨r, e2, r1, r2⟩ := range_is ⟨s.L, s.at_ + 1⟩ lo hi _ hs.one (by omega) h2 (by omega) (by omega);simp only [cond_false, e2];exact ⟨_, r, rfl, hs.one.one.up (by (try simp only []); omega), .inr (.inr (by omega))⟩
def PH : List (List UInt8) := [[], [43, 49, 50, 51], [43, 48, 49, 50, 51], [49, 50, 51, 52], [43, 49, 50, 51, 52, 53, 54, 55, 56, 57, 48, 49, 50, 51, 52, 53, 54], [43, 49, 50, 97, 52], [43, 49, 50, 48, 48], [43, 49, 50, 48, 49], [43, 49, 50, 48, 50], [43, 57, 57, 57, 57], [43, 52, 51, 49, 50], [43, 52, 57, 51, 48, 49], [43, 52, 57, 51, 48, 50], [43, 53, 53, 49, 50]]
def IDS : List (List UInt8) := (List.range 26).map (fun i => [114, (97 + i).toUInt8]) ++ [[], [65]]
def CARS : List (List UInt8) := [[], [119, 101, 115, 116], [65]]
theorem phone_is (s : uT1) (k : Int) (hs : SOk s k) (hk : k ≤ 100000) : ∃ s' r, uF105 s = some (s', r) ∧ SOk s' (k + 2) ∧ r ∈ PH := by
 obtain ⟨b, e1⟩ := flip_is s 25 k hs (by omega) (by omega) (by omega);simp only [uF105, bnd, e1, Option.bind_some];cases b with
 | true =>
  obtain ⟨r, e2, r1⟩ := some_in ⟨s.L, s.at_ + 1⟩ [[], [43, 49, 50, 51], [43, 48, 49, 50, 51], [49, 50, 51, 52], [43, 49, 50, 51, 52, 53, 54, 55, 56, 57, 48, 49, 50, 51, 52, 53, 54], [43, 49, 50, 97, 52]] _ hs.one (by omega) (by simp) (by simp);simp only [cond_true, e2];refine ⟨_, r, rfl, hs.one.one.up (by (try simp only []); omega), ?_⟩;simp only [List.mem_cons, List.not_mem_nil, or_false] at r1;rcases r1 with rfl | rfl | rfl | rfl | rfl | rfl <;> decide
 | false =>
  obtain ⟨r, e2, r1⟩ := some_in ⟨s.L, s.at_ + 1⟩ [[43, 49, 50, 48, 48], [43, 49, 50, 48, 48], [43, 49, 50, 48, 49], [43, 49, 50, 48, 50], [43, 57, 57, 57, 57], [43, 52, 51, 49, 50], [43, 52, 57, 51, 48, 49], [43, 52, 57, 51, 48, 50], [43, 53, 53, 49, 50]] _ hs.one (by omega) (by simp) (by simp);simp only [cond_false, e2];refine ⟨_, r, rfl, hs.one.one.up (by (try simp only []); omega), ?_⟩;simp only [List.mem_cons, List.not_mem_nil, or_false] at r1;rcases r1 with rfl | rfl | rfl | rfl | rfl | rfl | rfl | rfl | rfl <;> decide
theorem id_all : (List.range 26).all (fun i => (sadd [114] (runeStr (IntKind.wrap .i32 (IntKind.wrap .i64 (97 + (i : Int))))) == some [114, (97 + i).toUInt8])) = true := by kernel_rfl
theorem id_is (i : Nat) (h : i < 26) : sadd [114] (runeStr (IntKind.wrap .i32 (IntKind.wrap .i64 (97 + (i : Int))))) = some [114, (97 + i).toUInt8] := by
 simpa using List.all_eq_true.1 id_all i (List.mem_range.2 h)
def RInv (r : uT0) : Prop := r.Id ∈ IDS ∧ r.From ∈ PH ∧ r.To ∈ PH ∧ r.Carrier ∈ CARS ∧ -2000000000000 ≤ r.At ∧ r.At ≤ 2000000000000 ∧ (r.At ≤ 15552000000 ∨ 1000000000000 ≤ r.At)
noncomputable def recTail2 (w12 : List uT0) (u47 w14 : Int) (y232 : uT0) (y233 : uT1) : Option ((List uT0 × Int × Int × uT1) ⊕ (List uT0 × uT1)) := (uF51 y233 ((80 : Int))).bind fun y458 => (bif y458.2 then (some true) else ((uF107 w12 (fun a0 => uF108 a0 y232)).bind fun y486 => some (!y486))).bind fun y489 => bif y489 then ((app 96 w12 (([y232] : List uT0))).bind fun y508 => some (.inl ((y508, u47, (IntKind.wrap .i64 (w14 + ((1 : Int)))), y458.1)))) else (some (.inl ((w12, u47, (IntKind.wrap .i64 (w14 + ((1 : Int)))), y458.1))))
noncomputable def recTail (w12 : List uT0) (u47 w14 : Int) (y159 : uT0) (y160 : uT1) : Option ((List uT0 × Int × Int × uT1) ⊕ (List uT0 × uT1)) := (uF51 y160 ((80 : Int))).bind fun y206 => (bif y206.2 then ((uF50 y206.1 ((4 : Int))).bind fun y235 => bnd ((y235.2 == ((0 : Int)))) fun u250 => bif u250 then ((uF45 y235.1 (([([] : List UInt8), ([65] : List UInt8), ([114, 97] : List UInt8)] : List (List UInt8)))).bind fun y254 => some (((⟨y254.2, y159.From, y159.To, y159.At, y159.Ring, y159.Talk, y159.How, y159.Carrier⟩ : uT0), y254.1))) else (bnd ((y235.2 == ((1 : Int)))) fun u276 => bif u276 then ((uF105 y235.1).bind fun y279 => (uF105 y279.1).bind fun y294 => some (((⟨y159.Id, y279.2, y294.2, y159.At, y159.Ring, y159.Talk, y159.How, y159.Carrier⟩ : uT0), y294.1))) else (bnd ((y235.2 == ((2 : Int)))) fun u323 => bif u323 then ((uF106 y235.1 ((0 : Int)) ((100 : Int))).bind fun y326 => (uF106 y326.1 ((1 : Int)) ((4 : Int))).bind fun y341 => some (((⟨y159.Id, y159.From, y159.To, y159.At, y159.Ring, y326.2, y341.2, y159.Carrier⟩ : uT0), y341.1))) else ((uF106 y235.1 ((0 : Int)) ((100 : Int))).bind fun y370 => (uF106 y370.1 ((0 : Int)) ((100 : Int))).bind fun y385 => (uF45 y385.1 (([([] : List UInt8), ([65] : List UInt8)] : List (List UInt8)))).bind fun y401 => some (((⟨y159.Id, y159.From, y159.To, y370.2, y385.2, y159.Talk, y159.How, y401.2⟩ : uT0), y401.1)))))) else (some ((y159, y206.1)))).bind fun (y232, y233) => (uF51 y233 ((80 : Int))).bind fun y458 => (bif y458.2 then (some true) else ((uF107 w12 (fun a0 => uF108 a0 y232)).bind fun y486 => some (!y486))).bind fun y489 => bif y489 then ((app 96 w12 (([y232] : List uT0))).bind fun y508 => some (.inl ((y508, u47, (IntKind.wrap .i64 (w14 + ((1 : Int)))), y458.1)))) else (some (.inl ((w12, u47, (IntKind.wrap .i64 (w14 + ((1 : Int)))), y458.1))))
theorem cont_is (l : List uT0) (r : uT0) (hl : l.length ≤ 1000) : uF107 l (fun a => uF108 a r) = some (decide (idxI (fun a => a.Id == r.Id) l ≥ 0)) := by
 have := idxF_loop l (fun a => uF108 a r) (fun a => a.Id == r.Id) (fun _ _ => rfl) (by omega)
 have h : uF16 l (fun a => uF108 a r) = some (idxI (fun a => a.Id == r.Id) l) := this;simp only [uF107, h, Option.bind_some, bnd]
theorem tail2_is (l : List uT0) (u w : Int) (r : uT0) (s : uT1) (k : Int) (hs : SOk s k) (hk : k ≤ 100000) (hr : RInv r) (hl : l.length ≤ 1000) (hw : 0 ≤ w ∧ w ≤ 1000) :
  ∃ l' s', recTail2 l u w r s = some (.inl (l', u, w + 1, s')) ∧ (l' = l ∨ l' = l ++ [r]) ∧ SOk s' (k + 1) := by
 obtain ⟨b, e1⟩ := flip_is s 80 k hs (by omega) (by omega) (by omega);have key : ∀ b : Bool, ∃ l' s', (bif b then ((app 96 l [r]).bind fun y508 => some (.inl ((y508, u, (IntKind.wrap .i64 (w + 1)), (⟨s.L, s.at_ + 1⟩ : uT1))))) else (some (.inl ((l, u, (IntKind.wrap .i64 (w + 1)), (⟨s.L, s.at_ + 1⟩ : uT1))))) : Option ((List uT0 × Int × Int × uT1) ⊕ (List uT0 × uT1))) = some (.inl (l', u, w + 1, s')) ∧ (l' = l ∨ l' = l ++ [r]) ∧ SOk s' (k + 1) := by
  intro b;rw [w64 (by omega) (by omega)];cases b with
  | true => rw [app_of (by simp; omega) (by simp; omega)]; exact ⟨_, _, rfl, .inr rfl, hs.one⟩
  | false => exact ⟨_, _, rfl, .inl rfl, hs.one⟩
 simp only [recTail2, e1, Option.bind_some, cont_is l r hl];cases b with
 | true => simp only [cond_true, Option.bind_some]; exact key true
 | false => simp only [cond_false, Option.bind_some]; exact key _
theorem tail_is (l : List uT0) (u w : Int) (r : uT0) (s : uT1) (k : Int) (hs : SOk s k) (hk : k ≤ 10000) (hr : RInv r) (hl : l.length ≤ 1000) (hw : 0 ≤ w ∧ w ≤ 1000) :
  ∃ l' s' r', recTail l u w r s = some (.inl (l', u, w + 1, s')) ∧ (l' = l ∨ l' = l ++ [r']) ∧ RInv r' ∧ SOk s' (k + 10) := by
 obtain ⟨b, e1⟩ := flip_is s 80 k hs (by omega) (by omega) (by omega);have fin : ∀ r' s1, RInv r' → SOk s1 (k + 9) → ∃ l' s' r'', recTail2 l u w r' s1 = some (.inl (l', u, w + 1, s')) ∧ (l' = l ∨ l' = l ++ [r'']) ∧ RInv r'' ∧ SOk s' (k + 10) := by
  intro r' s1 h1 h2;obtain ⟨l', s', a1, a2, a3⟩ := tail2_is l u w r' s1 _ h2 (by omega) h1 hl hw;exact ⟨l', s', r', a1, a2, h1, a3.up (by omega)⟩
 have hh := hr;obtain ⟨i1, i2, i3, i4, i5, i6, i7⟩ := hh;simp only [recTail, e1, Option.bind_some];cases b with
 | false => simp only [cond_false, Option.bind_some]; exact fin r _ hr (hs.one.up (by omega))
 | true =>
  obtain ⟨n, e2, n1, n2⟩ := next_is ⟨s.L, s.at_ + 1⟩ 4 _ hs.one (by omega) (by omega) (by omega);have h2 := hs.one.one;simp only [cond_true, e2, Option.bind_some, bnd];by_cases c0 : n = 0
  ·subst c0
   obtain ⟨x, e3, x1⟩ := some_in ⟨s.L, s.at_ + 1 + 1⟩ [[], [65], [114, 97]] _ h2 (by omega) (by simp) (by simp);simp only [beq_self_eq_true, cond_true, e3, Option.bind_some];refine fin ⟨x, r.From, r.To, r.At, r.Ring, r.Talk, r.How, r.Carrier⟩ _ ⟨?_, i2, i3, i4, i5, i6, i7⟩ (h2.one.up (by omega));simp only [List.mem_cons, List.not_mem_nil, or_false] at x1;show x ∈ IDS;rcases x1 with rfl | rfl | rfl <;> decide
  ·have b0 : (n == 0) = false := by simpa using c0
   simp only [b0, cond_false];by_cases c1 : n = 1
   ·subst c1
    obtain ⟨s3, x, e3, h3, x1⟩ := phone_is ⟨s.L, s.at_ + 1 + 1⟩ _ h2 (by omega);obtain ⟨s4, y, e4, h4, y1⟩ := phone_is s3 _ h3 (by omega);simp only [beq_self_eq_true, cond_true, e3, e4, Option.bind_some];exact fin ⟨r.Id, x, y, r.At, r.Ring, r.Talk, r.How, r.Carrier⟩ _ ⟨i1, x1, y1, i4, i5, i6, i7⟩ (h4.up (by omega))
   ·have b1 : (n == 1) = false := by simpa using c1
    simp only [b1, cond_false];by_cases c2 : n = 2
    ·subst c2
     obtain ⟨s3, x, e3, h3, x1⟩ := odd_is ⟨s.L, s.at_ + 1 + 1⟩ 0 100 _ h2 (by omega) (by omega) (by omega) (by omega);obtain ⟨s4, y, e4, h4, y1⟩ := odd_is s3 1 4 _ h3 (by omega) (by omega) (by omega) (by omega);simp only [beq_self_eq_true, cond_true, e3, e4, Option.bind_some];exact fin ⟨r.Id, r.From, r.To, r.At, r.Ring, x, y, r.Carrier⟩ _ ⟨i1, i2, i3, i4, i5, i6, i7⟩ (h4.up (by omega))
    ·have b2 : (n == 2) = false := by simpa using c2
     simp only [b2, cond_false];obtain ⟨s3, x, e3, h3, x1⟩ := odd_is ⟨s.L, s.at_ + 1 + 1⟩ 0 100 _ h2 (by omega) (by omega) (by omega) (by omega);obtain ⟨s4, y, e4, h4, y1⟩ := odd_is s3 0 100 _ h3 (by omega) (by omega) (by omega) (by omega);obtain ⟨z, e5, z1⟩ := some_in s4 [[], [65]] _ h4 (by omega) (by simp) (by simp);simp only [e3, e4, e5, Option.bind_some];refine fin ⟨r.Id, r.From, r.To, x, y, r.Talk, r.How, z⟩ _ ⟨i1, i2, i3, ?_, by (try simp only []); omega, by (try simp only []); omega, by (try simp only []); omega⟩ (h4.one.up (by omega));simp only [List.mem_cons, List.not_mem_nil, or_false] at z1;show z ∈ CARS;rcases z1 with rfl | rfl <;> decide
theorem rec_is (l : List uT0) (at_ w : Int) (s : uT1) (k : Int) (hs : SOk s k) (hk : k ≤ 9000) (hl : l.length ≤ 100) (hw : 0 ≤ w ∧ w < 12) (ha : 0 ≤ at_ ∧ at_ ≤ 1296000000 * w) :
  ∃ l' a' s' r', uF52 12 l at_ w s = some (.inl (l', a', w + 1, s')) ∧ (l' = l ∨ l' = l ++ [r']) ∧ RInv r' ∧ SOk s' (k + 20) ∧ 0 ≤ a' ∧ a' ≤ 1296000000 * (w + 1) := by
 obtain ⟨p, e1, p1⟩ := pick_in s [0, 10, 100, 1000, 60000, 1296000000] _ hs (by omega) (by simp) (by simp);have p2 : 0 ≤ p ∧ p ≤ 1296000000 := by simp at p1; omega
 have h1 := hs.one;obtain ⟨n, e2, n1, n2⟩ := next_is ⟨s.L, s.at_ + 1⟩ 3 _ h1 (by omega) (by omega) (by omega);have h2 := h1.one;obtain ⟨f, e3, f1⟩ := some_in ⟨s.L, s.at_ + 1 + 1⟩ [[43, 49, 50, 48, 48], [43, 49, 50, 48, 48], [43, 49, 50, 48, 49], [43, 49, 50, 48, 50], [43, 57, 57, 57, 57]] _ h2 (by omega) (by simp) (by simp);have h3 := h2.one;obtain ⟨t, e4, t1⟩ := some_in ⟨s.L, s.at_ + 1 + 1 + 1⟩ [[43, 52, 51, 49, 50], [43, 52, 57, 51, 48, 49], [43, 52, 57, 51, 48, 50], [43, 53, 53, 49, 50], [43, 49, 50, 48, 48]] _ h3 (by omega) (by simp) (by simp);have h4 := h3.one;obtain ⟨g, e5, g1⟩ := pick_in ⟨s.L, s.at_ + 1 + 1 + 1 + 1⟩ [0, 5000] _ h4 (by omega) (by simp) (by simp);have h5 := h4.one;obtain ⟨o, e6, o1⟩ := pick_in ⟨s.L, s.at_ + 1 + 1 + 1 + 1 + 1⟩ [1, 1, 1, 2, 3, 4] _ h5 (by omega) (by simp) (by simp);have h6 := h5.one;obtain ⟨c, e7, c1⟩ := some_in ⟨s.L, s.at_ + 1 + 1 + 1 + 1 + 1 + 1⟩ [[], [119, 101, 115, 116]] _ h6 (by omega) (by simp) (by simp);have h7 := h6.one;have hd : (decide (w < 12)) = true := by simpa using hw.2
 have hx : 0 ≤ Int.tmod (IntKind.wrap .i64 (IntKind.wrap .i64 (w * 7) + n)) 26 ∧ Int.tmod (IntKind.wrap .i64 (IntKind.wrap .i64 (w * 7) + n)) 26 < 26 := by
  rw [w64 (n := w * 7) (by omega) (by omega), w64 (by omega) (by omega)];exact ⟨Int.tmod_nonneg _ (by omega), Int.tmod_lt_of_pos _ (by omega)⟩
 obtain ⟨j, hj⟩ := Int.eq_ofNat_of_zero_le hx.1;rw [hj] at hx;have hid := id_is j (by omega);have hat : IntKind.wrap .i64 (at_ + p) = at_ + p := w64 (by omega) (by omega);have inv : ∀ tk, RInv ⟨[114, (97 + j).toUInt8], f, t, at_ + p, g, tk, o, c⟩ := by
  intro tk;refine ⟨?_, ?_, ?_, ?_, by (try simp only []); omega, by (try simp only []); omega, .inl (by (try simp only []); omega)⟩
  ·exact List.mem_append_left _ (List.mem_map.2 ⟨j, List.mem_range.2 (by omega), rfl⟩)
  ·simp only [List.mem_cons, List.not_mem_nil, or_false] at f1
   show f ∈ PH;rcases f1 with rfl | rfl | rfl | rfl | rfl <;> decide
  ·simp only [List.mem_cons, List.not_mem_nil, or_false] at t1
   show t ∈ PH;rcases t1 with rfl | rfl | rfl | rfl | rfl <;> decide
  ·simp only [List.mem_cons, List.not_mem_nil, or_false] at c1
   show c ∈ CARS;rcases c1 with rfl | rfl <;> decide
 have fin : ∀ tk s1, SOk s1 (k + 9) → ∃ l' a' s' r', recTail l (at_ + p) w ⟨[114, (97 + j).toUInt8], f, t, at_ + p, g, tk, o, c⟩ s1 = some (.inl (l', a', w + 1, s')) ∧ (l' = l ∨ l' = l ++ [r']) ∧ RInv r' ∧ SOk s' (k + 20) ∧ 0 ≤ a' ∧ a' ≤ 1296000000 * (w + 1) := by
  intro tk s1 q;obtain ⟨l', s', r', a1, a2, a3, a4⟩ := tail_is l (at_ + p) w _ s1 _ q (by omega) (inv tk) (by omega) (by omega);exact ⟨l', _, s', r', a1, a2, a3, a4.up (by omega), by omega, by omega⟩
 simp only [uF52, hd, cond_true, e1, Option.bind_some, bnd, hat, e2, hj, hid, e3, e4, e5, e6, e7];by_cases co : o = 1
 ·subst co
  obtain ⟨tk, e8, _⟩ := pick_in ⟨s.L, s.at_ + 1 + 1 + 1 + 1 + 1 + 1 + 1⟩ [1, 5000, 60000, 60001, 61500, 90000] _ h7 (by omega) (by simp) (by simp);simp only [beq_self_eq_true, cond_true, e8, Option.bind_some];exact fin tk _ (h7.one.up (by omega))
 ·have bo : (o == 1) = false := by simpa using co
  simp only [bo, cond_false, Option.bind_some];exact fin 0 _ (h7.up (by omega))
/-! Sorting. -/
theorem mem_swap {α : Type} {l m : List α} {i j : Nat} {x y : α} (h : ∀ a ∈ l, a ∈ m) (hx : x ∈ l) (hy : y ∈ l) : ∀ a ∈ (l.set i x).set j y, a ∈ m := by
 intro a ha;rcases List.mem_or_eq_of_mem_set ha with ha | rfl
 ·rcases List.mem_or_eq_of_mem_set ha with ha | rfl
  ·exact h a ha
  ·exact h a hx
 ·exact h a hy
theorem ins1_is (c : uT0 → uT0 → Option Int) (hc : ∀ a b, ∃ n, c a b = some n) (m : List uT0) (l : List uT0) (j : Int) (hj : 0 ≤ j ∧ j < l.length) (hl : l.length ≤ 1000) (hm : ∀ a ∈ l, a ∈ m) :
  ∃ r, loopO (fun s : List uT0 × Int => uF212a 0 c s.1 s.2) (l, j) = some r ∧ r.length = l.length ∧ ∀ a ∈ r, a ∈ m := by
 refine loopO_ind (step := fun s : List uT0 × Int => uF212a 0 c s.1 s.2) (fun q => 0 ≤ q.2 ∧ q.2 < l.length ∧ q.1.length = l.length ∧ ∀ a ∈ q.1, a ∈ m) (fun r => r.length = l.length ∧ ∀ a ∈ r, a ∈ m) (fun q => q.2.toNat) (fun q hq => ?_) (l, j) ⟨hj.1, hj.2, rfl, hm⟩;obtain ⟨q, k⟩ := q;obtain ⟨k0, k1, k2, k3⟩ := hq;simp only [] at k0 k1 k2 k3;simp only [uF212a];by_cases h : k > 0
 ·have hk : k < q.length := by omega
  obtain ⟨x, hx, mx⟩ := idx_of (l := q) k0 hk;obtain ⟨y, hy, my⟩ := idx_of (l := q) (n := k - 1) (by omega) (by omega);have w : IntKind.wrap .i64 (k - 1) = k - 1 := w64 (by omega) (by omega);obtain ⟨n, hn⟩ := hc x y;simp only [h, decide_true, cond_true, hx, hy, w, hn, Option.bind_some, bnd];cases hd : decide (n < 0) with
  | false => exact .inl ⟨q, by simp, k2, k3⟩
  | true =>
   obtain ⟨z, hz, _⟩ := idx_of (l := q.set k.toNat y) (n := k - 1) (by omega) (by simp; omega);simp only [cond_true, hz, Option.bind_some];exact .inr ⟨_, rfl, ⟨by (try simp only []); omega, by (try simp only []); omega, by simp [k2], mem_swap k3 my mx⟩, by (try simp only []); omega⟩
 ·have hd : decide (k > 0) = false := by simpa using h
  simp only [hd, cond_false, Option.bind_some];exact .inl ⟨q, rfl, k2, k3⟩
theorem ins_is (c : uT0 → uT0 → Option Int) (hc : ∀ a b, ∃ n, c a b = some n) (l : List uT0) (hl : l.length ≤ 1000) :
  ∃ r, uF212 l 0 (l.length : Int) c = some r ∧ r.length = l.length ∧ ∀ a ∈ r, a ∈ l := by
 obtain ⟨r, h1, h2⟩ := loopO_ind (step := fun s : List uT0 × Int => uF212b 0 (l.length : Int) c s.1 s.2) (fun q => 0 ≤ q.2 ∧ q.1.length = l.length ∧ ∀ a ∈ q.1, a ∈ l) (fun r => r.length = l.length ∧ ∀ a ∈ r, a ∈ l) (fun q => (l.length - q.2).toNat) (fun q hq => by
  obtain ⟨q, k⟩ := q;obtain ⟨k0, k2, k3⟩ := hq;simp only [] at k0 k2 k3;simp only [uF212b];by_cases h : k < (l.length : Int)
  ·obtain ⟨r, h1, h2, h3⟩ := ins1_is c hc l q k ⟨k0, by omega⟩ (by omega) k3
   simp only [h, decide_true, cond_true, h1, Option.bind_some, bnd];rw [w64 (by omega) (by omega)];exact .inr ⟨_, rfl, ⟨by (try simp only []); omega, by (try simp only []); omega, h3⟩, by (try simp only []); omega⟩
  ·exact .inl ⟨q, by simp [h], k2, k3⟩) (l, 1) ⟨by simp, rfl, fun _ h => h⟩
 refine ⟨r, ?_, h2⟩;simp only [uF212, bnd];rw [show IntKind.wrap .i64 (0 + 1) = 1 from rfl, h1]; rfl
theorem sort_is (c : uT0 → uT0 → Option Int) (hc : ∀ a b, ∃ n, c a b = some n) (l : List uT0) (hl : l.length ≤ 12) :
  ∃ r, uF109 l c = some r ∧ r.length = l.length ∧ ∀ a ∈ r, a ∈ l := by
 obtain ⟨r, h1, h2⟩ := ins_is c hc l (by omega);refine ⟨r, ?_, h2⟩;have d1 : decide ((20 : Int) ≤ (l.length : Int)) = false := by simp; omega
 have d2 : decide ((20 : Int) < (l.length : Int)) = false := by simp; omega
 have e1 : loopO (fun s : List uT0 × Int × Int => uF167 (l.length : Int) c s.1 s.2.1 s.2.2) (l, 0, 20) = some (l, 0) := by
  rw [loopO_eq]; simp only [uF167, d1, cond_false]
 have e2 : loopO (fun s : Int => uF167a (l.length : Int) s) 20 = some () := by
  rw [loopO_eq]; simp only [uF167a, d2, cond_false]
 simp only [uF109, uF167b, e1, Option.bind_some, h1, e2]
theorem order_total (a b : uT0) : ∃ n, uF110 a b = some n := by
 unfold uF110 uF168 uF119 uF172 uF214;cases (a.At != b.At) with
 | false => exact ⟨_, rfl⟩
 | true =>
  simp only [cond_true, bnd];cases decide (IntKind.wrap .i64 (a.At - b.At) < 0) with
  | true => exact ⟨_, rfl⟩
  | false =>
   cases decide (IntKind.wrap .i64 (a.At - b.At) > 0) <;> exact ⟨_, rfl⟩
theorem records_is (s0 : uT1) (k : Int) (hs : SOk s0 k) (hk : k ≤ 5000) : ∃ s' l, uF52a s0 12 = some (s', l) ∧ l.length ≤ 12 ∧ (∀ r ∈ l, RInv r) ∧ SOk s' (k + 240) := by
 obtain ⟨e, h1, h2, h3, h4⟩ := loopO_ind (step := fun s : List uT0 × Int × Int × uT1 => uF52 12 s.1 s.2.1 s.2.2.1 s.2.2.2)
  (fun q => 0 ≤ q.2.2.1 ∧ q.2.2.1 ≤ 12 ∧ (q.1.length : Int) ≤ q.2.2.1 ∧ (∀ r ∈ q.1, RInv r) ∧ 0 ≤ q.2.1 ∧ q.2.1 ≤ 1296000000 * q.2.2.1 ∧ SOk q.2.2.2 (k + 20 * q.2.2.1))
  (fun e => e.1.length ≤ 12 ∧ (∀ r ∈ e.1, RInv r) ∧ SOk e.2 (k + 240)) (fun q => (12 - q.2.2.1).toNat) (fun q hq => by
   obtain ⟨l, a, n, s⟩ := q;obtain ⟨q0, q1, q2, q3, q4, q5, q6⟩ := hq;simp only [] at q0 q1 q2 q3 q4 q5 q6;by_cases hlt : n < 12
   ·obtain ⟨l', a', s', r', e1, e2, e3, e4, e5, e6⟩ := rec_is l a n s _ q6 (by omega) (by omega) ⟨q0, hlt⟩ ⟨q4, q5⟩
    refine .inr ⟨(l', a', n + 1, s'), e1, ⟨by (try simp only []); omega, by (try simp only []); omega, ?_, ?_, e5, e6, e4.up (by (try simp only []); omega)⟩, by (try simp only []); omega⟩
    ·rcases e2 with rfl | rfl
     ·simp only []; omega
     ·simp; omega
    ·rcases e2 with rfl | rfl
     ·exact q3
     ·intro r hr
      rcases List.mem_append.1 hr with hr | hr
      ·exact q3 r hr
      ·simp at hr; subst hr; exact e3
   ·refine .inl ⟨(l, s), ?_, by (try simp only []); omega, q3, q6.up (by (try simp only []); omega)⟩
    have hd : decide (n < 12) = false := by simpa using hlt
    simp only [uF52, hd, cond_false]) ([], 0, 0, s0) ⟨by simp, by simp, by simp, by simp, by simp, by simp, by simpa using hs⟩
 obtain ⟨l, s⟩ := e;obtain ⟨r, f1, f2, f3⟩ := sort_is (fun a b => uF110 a b) order_total l h2;have h2' : l.length ≤ 12 := h2;refine ⟨s, r, ?_, by omega, fun x hx => h3 x (f3 x hx), h4⟩;simp only [uF52a, h1, Option.bind_some];rw [f1]; rfl

/-! Keys and numbers. -/
theorem foldE_all {α R : Type} (p : α → Bool) (r : R) : ∀ (l : List α) (i : Nat), foldE (S := Unit) (E := Unit ⊕ R) (fun _ a _ => some (if p a = true then .inl () else .inr (.inr r))) (fun _ => .inl ()) i l () = some (if l.all p = true then .inl () else .inr r)
 | [], _ => by simp [foldE]
 | a :: l, i => by
  by_cases h : p a = true
  ·simp only [foldE, List.all_cons, h, if_true, Bool.true_and]; exact foldE_all p r l (i + 1)
  ·simp [foldE, List.all_cons, h]
def onlyB (s c : List UInt8) : Bool := s.all fun x => decide (Lib.indexByte c x ≥ 0)
theorem only_is (s c : List UInt8) (hs : s.length ≤ 1000) : uF169 s c = some (onlyB s c) := by
 have h := loop_list (step := fun w : Int => uF169a s c w) s (fun i (_ : Unit) => (i : Int)) (fun _ a _ => some (if decide (Lib.indexByte c a ≥ 0) = true then .inl () else .inr (.inr false))) (fun _ => .inl ()) (fun i a st hi => by
  have hlt := (List.getElem?_eq_some_iff.1 hi).1;have hd : decide ((i : Int) < (List.length s : Int)) = true := by simpa using hlt
  have ha : a.toNat.toUInt8 = a := by simp
  simp only [uF169a, hd, cond_true, idx_nat, hi, Option.bind_some, uF141, uF191, uF224, Int.toNat_natCast, ha];rw [w64 (by omega) (by omega)];by_cases hx : Lib.indexByte c a < 0
  ·have h2 : ¬ (Lib.indexByte c a ≥ 0) := by omega
   simp [hx, h2]
  ·have h2 : Lib.indexByte c a ≥ 0 := by omega
   simp [hx, h2]) (fun st => by simp [uF169a]) ()
 rw [foldE_all] at h;have h1 : loopO (fun w : Int => uF169a s c w) 0 = some (if onlyB s c = true then .inl () else .inr false) := h;simp only [uF169, h1];cases onlyB s c <;> rfl
noncomputable def onlyO (s c : List UInt8) : Option Bool := if s.length ≤ 1000 then some (onlyB s c) else uF169 s c
theorem only_eq (s c : List UInt8) : uF169 s c = onlyO s c := by
 unfold onlyO;split
 ·next h => exact only_is s c h
 ·rfl
noncomputable def keyO (x0 : List UInt8) : Option (Bool) := (uF114 ((List.length x0 : Int)) ((1 : Int)) ((40 : Int))).bind fun y1 => (bif y1 then ((sub x0 0 ((1 : Int))).bind fun y9 => (onlyO y9 (([97, 98, 99, 100, 101, 102, 103, 104, 105, 106, 107, 108, 109, 110, 111, 112, 113, 114, 115, 116, 117, 118, 119, 120, 121, 122] : List UInt8))).bind fun y11 => some y11) else (some false)).bind fun y14 => (bif y14 then ((onlyO x0 (([97, 98, 99, 100, 101, 102, 103, 104, 105, 106, 107, 108, 109, 110, 111, 112, 113, 114, 115, 116, 117, 118, 119, 120, 121, 122, 48, 49, 50, 51, 52, 53, 54, 55, 56, 57, 45, 95] : List UInt8))).bind fun y25 => some y25) else (some false)).bind fun y28 => some y28
noncomputable def phoneO (x0 : List UInt8) : Option (Bool) := (uF130 x0 (([43] : List UInt8))).bind fun y1 => (bif y1.2 then ((uF114 ((List.length y1.1 : Int)) ((4 : Int)) ((15 : Int))).bind fun y9 => some y9) else (some false)).bind fun y12 => (bif y12 then ((onlyO y1.1 (([48, 49, 50, 51, 52, 53, 54, 55, 56, 57] : List UInt8))).bind fun y23 => some y23) else (some false)).bind fun y26 => (bif y26 then ((idx y1.1 ((0 : Int))).bind fun y37 => some ((((y37.toNat : Int)) != ((48 : Int))))) else (some false)).bind fun y39 => some y39
theorem key_eq (s : List UInt8) : uF111 s = keyO s := by
 simp only [uF111, keyO, only_eq]
theorem phone_eq (s : List UInt8) : uF112 s = phoneO s := by
 simp only [uF112, phoneO, only_eq]
theorem ids_all : (IDS ++ CARS).all (fun s => (keyO s).isSome && (uF69 s == keyO s)) = true := by kernel_rfl
theorem phs_all : PH.all (fun s => (phoneO s).isSome && (uF68 s == phoneO s)) = true := by kernel_rfl
theorem id_key {s : List UInt8} (h : s ∈ IDS ++ CARS) : ∃ b, uF111 s = some b ∧ uF69 s = some b := by
 have := List.all_eq_true.1 ids_all s h
 rw [Bool.and_eq_true, beq_iff_eq] at this;obtain ⟨b, e⟩ := Option.isSome_iff_exists.1 this.1;exact ⟨b, by rw [key_eq, e], by rw [this.2, e]⟩
theorem ph_num {s : List UInt8} (h : s ∈ PH) : ∃ b, uF112 s = some b ∧ uF68 s = some b := by
 have := List.all_eq_true.1 phs_all s h
 rw [Bool.and_eq_true, beq_iff_eq] at this;obtain ⟨b, e⟩ := Option.isSome_iff_exists.1 this.1;exact ⟨b, by rw [phone_eq, e], by rw [this.2, e]⟩

/-! Maps. -/
theorem mget_mput {κ β : Type} [DecidableEq κ] (m : List (κ × β)) (k k' : κ) (v : β) : mget (mput m k v) k' = if k = k' then some v else mget m k' := by
 induction m with
 | nil => simp only [mput, mget]
 | cons a m ih =>
  obtain ⟨a, b⟩ := a;simp only [mput];by_cases h : a = k
  ·subst h
   simp only [if_true, mget];by_cases h2 : a = k'
   ·simp [h2]
   ·simp [h2]
  ·simp only [h, if_false, mget, ih]
   by_cases h2 : a = k'
   ·subst h2
    have : ¬ k = a := fun e => h e.symm;simp [this]
   ·simp [h2]
theorem mput_len {κ β : Type} [DecidableEq κ] (m : List (κ × β)) (k : κ) (v : β) : (mput m k v).length = if (mget m k).isSome = true then m.length else m.length + 1 := by
 induction m with
 | nil => simp [mput, mget]
 | cons a m ih =>
  obtain ⟨a, b⟩ := a;simp only [mput, mget];by_cases h : a = k
  ·simp [h]
  ·simp only [h, if_false, List.length_cons, ih]
   split <;> rfl

/-! Records are right. -/
theorem cond_some {α : Type} (c : Bool) (a b : α) : (bif c then some a else some b) = some (bif c then a else b) := by cases c <;> rfl
def ROk (l : List uT0) (i : Nat) (r : uT0) : Prop := uF69 r.Id = some true ∧ uF68 r.From = some true ∧ uF68 r.To = some true ∧ 0 ≤ r.At ∧ r.At ≤ 345686399999 ∧ 0 ≤ r.Ring ∧ r.Ring ≤ 86400000 ∧ 0 ≤ r.Talk ∧ r.Talk ≤ 86400000 ∧ 1 ≤ r.How ∧ r.How ≤ 4 ∧
  ((r.How == 1) = decide (r.Talk > 0)) ∧ (r.Carrier = [] ∨ uF69 r.Carrier = some true) ∧ (0 < i → ∃ p n, l[i - 1]? = some p ∧ uF110 p r = some n ∧ n < 0)
theorem cnd_l {α : Type} {c : Bool} {a b : α} {e : α} (h : (bif c then a else b) = e) (hne : a ≠ e) : c = false ∧ b = e := by
 cases c with
 | true => exact absurd h hne
 | false => exact ⟨rfl, h⟩
theorem fault_step (l : List uT0) (i : Nat) (r : uT0) (hi : l[i]? = some r) (hr : RInv r) (hl : l.length ≤ 1000) (s : Int) (h : uF53 l (i : Int) = some (.inl s)) : ROk l i r ∧ s = (i : Int) + 1 := by
 obtain ⟨i1, i2, i3, i4, i5, i6, i7⟩ := hr;obtain ⟨b1, f1, g1⟩ := id_key (List.mem_append_left CARS i1);obtain ⟨b2, f2, g2⟩ := ph_num i2;obtain ⟨b3, f3, g3⟩ := ph_num i3;obtain ⟨b4, f4, g4⟩ := id_key (List.mem_append_right IDS i4);have hlt := (List.getElem?_eq_some_iff.1 hi).1;have hd : decide ((i : Int) < (List.length l : Int)) = true := by simpa using hlt
 have w : IntKind.wrap .i64 ((i : Int) + 1) = i + 1 := w64 (by omega) (by omega);simp only [uF53, hd, cond_true, idx_nat, hi, Option.bind_some, f1, f2, f3, f4, uF113, uF114, bnd, cond_some, w] at h;obtain ⟨c1, h⟩ := cnd_l h (by simp);obtain ⟨c2, h⟩ := cnd_l h (by simp);obtain ⟨c3, h⟩ := cnd_l h (by simp);obtain ⟨c4, h⟩ := cnd_l h (by simp);obtain ⟨c5, h⟩ := cnd_l h (by simp);obtain ⟨c6, h⟩ := cnd_l h (by simp);have h14 : (0 < i → ∃ p n, l[i - 1]? = some p ∧ uF110 p r = some n ∧ n < 0) ∧ s = (i : Int) + 1 := by
  by_cases h0 : 0 < i
  ·have hp : i - 1 < l.length := by omega
   have w1 : IntKind.wrap .i64 ((i : Int) - 1) = ((i - 1 : Nat) : Int) := by rw [w64 (by omega) (by omega)]; omega
   have d0 : decide ((i : Int) > 0) = true := by simpa using h0
   obtain ⟨n, hn⟩ := order_total l[i - 1] r;simp only [d0, cond_true, w1, idx_at hp, Option.bind_some, hn] at h;obtain ⟨c7, h⟩ := cnd_l (Option.some.inj h) (by simp)
   have := Sum.inl.inj h
   exact ⟨fun _ => ⟨l[i - 1], n, by simp [hp], hn, by simp at c7; omega⟩, this.symm⟩
  ·have d0 : decide ((i : Int) > 0) = false := by simp; omega
   simp only [d0, cond_false, Option.bind_some] at h
   have := Sum.inl.inj (Option.some.inj h)
   exact ⟨fun h => absurd h h0, this.symm⟩
 refine ⟨⟨?_, ?_, ?_, ?_⟩, h14.2⟩
 ·rw [g1]; cases b1 <;> simp_all
 ·rw [g2]; cases b2 <;> simp_all
 ·rw [g3]; cases b2 <;> cases b3 <;> simp_all
 ·have q3 : 0 ≤ r.At ∧ r.At ≤ 345686399999 ∧ 0 ≤ r.Ring ∧ r.Ring ≤ 86400000 ∧ 0 ≤ r.Talk ∧ r.Talk ≤ 86400000 := by
   revert c3;cases ha : (decide (0 ≤ r.At) && decide (r.At ≤ 345686399999)) <;> cases hb : (decide (0 ≤ r.Ring) && decide (r.Ring ≤ 86400000)) <;> cases hc : (decide (0 ≤ r.Talk) && decide (r.Talk ≤ 86400000)) <;> simp
   simp at ha hb hc;omega
  have q4 : 1 ≤ r.How ∧ r.How ≤ 4 := by simpa using c4
  have q5 : (r.How == 1) = decide (r.Talk > 0) := by
   cases ha : (r.How == 1) <;> cases hb : decide (r.Talk > 0) <;> simp [ha, hb] at c5 ⊢
  have q6 : r.Carrier = [] ∨ uF69 r.Carrier = some true := by
   by_cases hc : r.Carrier = []
   ·exact .inl hc
   ·have : (r.Carrier == []) = false := by simpa using hc
    rw [this] at c6;simp at c6;exact .inr (by rw [g4, c6])
  exact ⟨q3.1, q3.2.1, q3.2.2.1, q3.2.2.2.1, q3.2.2.2.2.1, q3.2.2.2.2.2, q4.1, q4.2, q5, q6, h14.1⟩
theorem tot {S E : Type} {c : Bool} {e : Int} {s : S} {b : Option (S ⊕ (E ⊕ Int))} (he : e ≠ 0) (h : b = some (.inl s) ∨ ∃ e', e' ≠ 0 ∧ b = some (.inr (.inr e'))) :
  (bif c then some (.inr (.inr e)) else b) = some (.inl s) ∨ ∃ e', e' ≠ 0 ∧ (bif c then some (.inr (.inr e)) else b) = some (.inr (.inr e')) := by
 cases c with
 | true => exact .inr ⟨e, he, rfl⟩
 | false => exact h
theorem fault_total (l : List uT0) (i : Nat) (r : uT0) (hi : l[i]? = some r) (hr : RInv r) (hl : l.length ≤ 1000) : uF53 l (i : Int) = some (.inl ((i : Int) + 1)) ∨ ∃ e, e ≠ 0 ∧ uF53 l (i : Int) = some (.inr (.inr e)) := by
 obtain ⟨i1, i2, i3, i4, i5, i6, i7⟩ := hr;obtain ⟨b1, f1, g1⟩ := id_key (List.mem_append_left CARS i1);obtain ⟨b2, f2, g2⟩ := ph_num i2;obtain ⟨b3, f3, g3⟩ := ph_num i3;obtain ⟨b4, f4, g4⟩ := id_key (List.mem_append_right IDS i4);have hlt := (List.getElem?_eq_some_iff.1 hi).1;have hd : decide ((i : Int) < (List.length l : Int)) = true := by simpa using hlt
 have w : IntKind.wrap .i64 ((i : Int) + 1) = i + 1 := w64 (by omega) (by omega);simp only [uF53, hd, cond_true, idx_nat, hi, Option.bind_some, f1, f2, f3, f4, uF113, uF114, bnd, cond_some, w];refine tot (by decide) (tot (by decide) (tot (by decide) (tot (by decide) (tot (by decide) (tot (by decide) ?_)))));by_cases h0 : 0 < i
 ·have hp : i - 1 < l.length := by omega
  have w1 : IntKind.wrap .i64 ((i : Int) - 1) = ((i - 1 : Nat) : Int) := by rw [w64 (by omega) (by omega)]; omega
  have d0 : decide ((i : Int) > 0) = true := by simpa using h0
  obtain ⟨n, hn⟩ := order_total l[i - 1] r;simp only [d0, cond_true, w1, idx_at hp, Option.bind_some, hn];cases decide (n ≥ 0) with
  | true => exact .inr ⟨7, by decide, rfl⟩
  | false => exact .inl rfl
 ·have d0 : decide ((i : Int) > 0) = false := by simp; omega
  simp only [d0, cond_false, Option.bind_some];exact .inl trivial
def ids (m : List (List UInt8 × Bool)) (l : List uT0) : List (List UInt8 × Bool) := l.foldl (fun m r => mput m r.Id true) m
theorem ids_add (m : List (List UInt8 × Bool)) (l : List uT0) (r : uT0) : ids m (l ++ [r]) = mput (ids m l) r.Id true := by simp [ids]
theorem ids_get (k : List UInt8) : ∀ (l : List uT0) (m : List (List UInt8 × Bool)), k ∉ l.map (·.Id) → mget (ids m l) k = mget m k
 | [], _, _ => rfl
 | r :: l, m, h => by
  rw [List.map_cons, List.mem_cons, not_or] at h
  show mget (ids (mput m r.Id true) l) k = _
  rw [ids_get k l _ h.2, mget_mput, if_neg fun e => h.1 e.symm]
theorem ids_len : ∀ (l : List uT0) (m : List (List UInt8 × Bool)), (ids m l).length ≤ m.length + l.length ∧ ((ids m l).length = m.length + l.length → (l.map (·.Id)).Nodup ∧ ∀ r ∈ l, mget m r.Id = none)
 | [], m => ⟨Nat.le_refl _, fun _ => ⟨List.nodup_nil, by simp⟩⟩
 | r :: l, m => by
  have ih := ids_len l (mput m r.Id true)
  have hl := mput_len m r.Id true
  have e : ids m (r :: l) = ids (mput m r.Id true) l := rfl
  rw [e, List.length_cons]
  cases hg : mget m r.Id with
  | some v =>
   rw [hg] at hl
   simp at hl
   exact ⟨by omega, fun h => by omega⟩
  | none =>
   rw [hg] at hl
   simp at hl
   refine ⟨by omega, fun h => ?_⟩
   obtain ⟨h1, h2⟩ := ih.2 (by omega)
   refine ⟨?_, ?_⟩
   ·rw [List.map_cons, List.nodup_cons]
    refine ⟨fun hm => ?_, h1⟩
    obtain ⟨x, hx, he⟩ := List.mem_map.1 hm
    have := h2 x hx
    rw [mget_mput, if_pos he.symm] at this
    cases this
   ·intro x hx
    rcases List.mem_cons.1 hx with rfl | hx
    ·exact hg
    ·have := h2 x hx
     rw [mget_mput] at this
     split at this
     ·cases this
     ·exact this
def XGood (l : List uT0) : Prop := l.length ≤ 12 ∧ (∀ (i : Nat) r, l[i]? = some r → ROk l i r) ∧ (∀ r ∈ l, RInv r) ∧ (l.map (·.Id)).Nodup
theorem fault_is (l : List uT0) (hl : l.length ≤ 12) (hr : ∀ r ∈ l, RInv r) : ∃ e, uF53b l = some e ∧ (e = 0 → XGood l) := by
 obtain ⟨e, h1, h2⟩ := loopO_ind (step := fun s : Int => uF53 l s) (fun n => 0 ≤ n ∧ n ≤ l.length ∧ ∀ (i : Nat) r, (i : Int) < n → l[i]? = some r → ROk l i r)
  (fun e => (e = .inl () ∧ ∀ (i : Nat) r, l[i]? = some r → ROk l i r) ∨ ∃ x, x ≠ 0 ∧ e = .inr x) (fun n => (l.length - n).toNat) (fun n hn => by
   obtain ⟨n0, n1, n2⟩ := hn;obtain ⟨i, rfl⟩ := Int.eq_ofNat_of_zero_le n0;by_cases hlt : i < l.length
   ·have hi : l[i]? = some l[i] := by simp [hlt]
    rcases fault_total l i _ hi (hr _ (List.getElem_mem hlt)) (by omega) with h | ⟨x, hx, h⟩
    ·refine .inr ⟨_, h, ⟨by omega, by omega, fun j r hj hjr => ?_⟩, by omega⟩
     by_cases hji : j = i
     ·subst hji
      rw [hi] at hjr;cases hjr
      exact (fault_step l j _ hi (hr _ (List.getElem_mem hlt)) (by omega) _ h).1
     ·exact n2 j r (by omega) hjr
    ·exact .inl ⟨_, h, .inr ⟨x, hx, rfl⟩⟩
   ·have hd : decide ((i : Int) < (List.length l : Int)) = false := by simp; omega
    refine .inl ⟨.inl (), by simp only [uF53, hd, cond_false], .inl ⟨rfl, fun j r hj => n2 j r ?_ hj⟩⟩
    have := (List.getElem?_eq_some_iff.1 hj).1
    omega) 0 ⟨by omega, by omega, fun i r h => by omega⟩
 have hc : decide ((List.length l : Int) > 3000) = false := by simp; omega
 rcases h2 with ⟨rfl, h2⟩ | ⟨x, hx, rfl⟩
 ·have h3 := loop_for (N := l.length) (step := fun s : List (List UInt8 × Bool) × Int => uF53a l s.1 s.2) (fun k => (ids [] (l.take k), (k : Int))) (ids [] l) (fun k hk => by
   have hd : decide ((k : Int) < (List.length l : Int)) = true := by simpa using hk
   simp only [uF53a, hd, cond_true, idx_at hk, Option.bind_some, bnd];rw [w64 (by omega) (by omega), List.take_succ_eq_append_getElem hk, ids_add]; rfl) (by simp [uF53a])
  have h3' : loopO (fun s : List (List UInt8 × Bool) × Int => uF53a l s.1 s.2) ([], 0) = some (ids [] l) := h3;simp only [uF53b, hc, cond_false, h1, lret, h3', Option.bind_some];by_cases hz : ((ids [] l).length : Int) < (l.length : Int)
  ·simp only [hz, decide_true, cond_true]
   exact ⟨6, rfl, fun h => absurd h (by decide)⟩
  ·simp only [hz, decide_false, cond_false]
   have := ids_len l []
   simp at this;exact ⟨0, rfl, fun _ => ⟨hl, h2, hr, (this.2 (by omega)).1⟩⟩
 ·simp only [uF53b, hc, cond_false, h1, lret]
  exact ⟨x, rfl, fun h => absurd h hx⟩
theorem right_is (s0 : uT1) (k : Int) (hs : SOk s0 k) (hk : k ≤ 1000) : ∃ s' l, uF11 s0 12 = some (s', l) ∧ XGood l := by
 have nil : XGood [] := ⟨by simp, by simp, by simp, by simp⟩;obtain ⟨e, h1, h2⟩ := loopO_ind (step := fun s : Int × uT1 => uF11a 12 s.1 s.2) (fun q => 0 ≤ q.1 ∧ q.1 ≤ 5 ∧ SOk q.2 (k + 240 * q.1))
  (fun e => match e with
   | .inl _ => True
   | .inr r => XGood r.2) (fun q => (5 - q.1).toNat) (fun q hq => by
   obtain ⟨n, s⟩ := q;obtain ⟨q0, q1, q2⟩ := hq;simp only [] at q0 q1 q2;simp only [uF11a];by_cases hlt : n < 5
   ·obtain ⟨s', l, e1, l1, l2, l3⟩ := records_is s _ q2 (by omega)
    obtain ⟨x, e2, hx⟩ := fault_is l l1 l2;simp only [hlt, decide_true, cond_true, e1, Option.bind_some, e2];by_cases h0 : x = 0
    ·subst h0
     exact .inl ⟨.inr (s', l), rfl, hx rfl⟩
    ·have hb : (x == 0) = false := by simpa using h0
     simp only [hb, cond_false];rw [w64 (by omega) (by omega)];exact .inr ⟨_, rfl, ⟨by (try simp only []); omega, by (try simp only []); omega, l3.up (by (try simp only []); omega)⟩, by (try simp only []); omega⟩
   ·exact .inl ⟨.inl s, by simp [hlt], trivial⟩) (0, s0) ⟨by simp, by simp, by simpa using hs⟩
 simp only [uF11, h1, lret];match e, h2 with
 | .inl s, _ => exact ⟨s, [], rfl, nil⟩
 | .inr r, h2 => exact ⟨r.1, r.2, rfl, h2⟩

/-! CheckRecords. -/
theorem or_is (a b : Int) : uF151a [a, b] = some (if a ≠ 0 then a else b) := by
 have i0 : idx [a, b] 0 = some a := rfl;have i1 : idx [a, b] 1 = some b := rfl;have hl : ((List.length [a, b] : Nat) : Int) = 2 := rfl;by_cases ha : a = 0
 ·subst ha
  by_cases hb : b = 0
  ·subst hb
   have : loopO (fun s : Int => uF151 [0, 0] s) 0 = some (.inl ()) := by
    rw [loopO_eq]; simp only [uF151, hl, i0];show loopO (fun s : Int => uF151 [0, 0] s) 1 = _;rw [loopO_eq]; simp only [uF151, hl, i1];show loopO (fun s : Int => uF151 [0, 0] s) 2 = _;rw [loopO_eq]; rfl
   simp only [uF151a, this, lret]; rfl
  ·have hbb : (b != 0) = true := by simpa using hb
   have : loopO (fun s : Int => uF151 [0, b] s) 0 = some (.inr b) := by
    rw [loopO_eq]; simp only [uF151, hl, i0];show loopO (fun s : Int => uF151 [0, b] s) 1 = _;rw [loopO_eq]; simp only [uF151, hl, i1, Option.bind_some, hbb, cond_true];rfl
   simp only [uF151a, this, lret]; simp
 ·have haa : (a != 0) = true := by simpa using ha
  have : loopO (fun s : Int => uF151 [a, b] s) 0 = some (.inr a) := by
   rw [loopO_eq]; simp only [uF151, hl, i0, Option.bind_some, haa, cond_true];rfl
  simp only [uF151a, this, lret]; simp [ha]
theorem compare_of {p r : uT0} {n : Int} (h : uF110 p r = some n) (hn : n < 0) (hp : 0 ≤ p.At ∧ p.At ≤ 345686399999) (hr : 0 ≤ r.At ∧ r.At ≤ 345686399999) : ∃ n', uF171 p r = some n' ∧ n' < 0 := by
 have cmp : uF152 p.At r.At = some (if p.At < r.At then -1 else if p.At > r.At then 1 else 0) := by
  simp only [uF152, uF198, bnd, bne_self_eq_false, Option.bind_some, cond_false];by_cases h1 : p.At < r.At
  ·simp [h1]
  ·by_cases h2 : p.At > r.At
   ·simp [h1, h2]
   ·simp [h1, h2]
 have sc : uF119 p.Id r.Id = some (Lib.compareBytes p.Id r.Id) := rfl;simp only [uF171, cmp, Option.bind_some, sc, or_is];by_cases he : p.At = r.At
 ·have hb : (p.At != r.At) = false := by simpa using he
  simp only [uF110, hb, cond_false, sc, Option.bind_some] at h;have h := Option.some.inj h;refine ⟨_, rfl, ?_⟩;simp [he]; omega
 ·have hb : (p.At != r.At) = true := by simpa using he
  have w : IntKind.wrap .i64 (p.At - r.At) = p.At - r.At := w64 (by omega) (by omega);simp only [uF110, hb, cond_true, uF168, w, bnd, Option.bind_some] at h;refine ⟨_, rfl, ?_⟩;by_cases h1 : p.At < r.At
  ·simp [h1]
  ·have h2 : p.At > r.At := by omega
   have d1 : decide (p.At - r.At < 0) = false := by simp; omega
   have d2 : decide (p.At - r.At > 0) = true := by simp; omega
   simp only [d1, cond_false, d2, cond_true, Option.bind_some] at h;have h := Option.some.inj h;omega
theorem check_is {l : List uT0} (h : XGood l) : uF116a l = some 0 := by
 obtain ⟨h1, h2, h3, h4⟩ := h;have hc : decide ((List.length l : Int) > 3000) = false := by simp; omega
 have key := loop_for (N := l.length) (step := fun s : List (List UInt8 × Bool) × Bool × Int => uF116 l s.1 s.2.1 s.2.2) (fun k => (ids [] (l.take k), false, (k : Int))) (.inl false) (fun k hk => by
  have hd : decide ((k : Int) < (List.length l : Int)) = true := by simpa using hk
  have hi : l[k]? = some l[k] := by simp [hk]
  obtain ⟨a1, a2, a3, a4, a5, a6, a7, a8, a9, a10, a11, a12, a13, a14⟩ := h2 k _ hi;have w : IntKind.wrap .i64 ((k : Int) + 1) = ((k + 1 : Nat) : Int) := by rw [w64 (by omega) (by omega)]; omega
  have m1 : uF70 l[k].At = some true := by
   have e1 : decide (l[k].At ≥ 0) = true := by simpa using a4
   have e2 : decide (l[k].At < 345686400000) = true := by simp; omega
   simp only [uF70, bnd, e1, e2, Bool.and_self]
  have m2 : ∀ x lo hi : Int, lo ≤ x → x ≤ hi → uF120 x lo hi = some true := by
   intro x lo hi q1 q2;simp [uF120, bnd, q1, q2]
  have m3 : (bif (!(l[k].Carrier == [])) then (uF69 l[k].Carrier).bind fun y172 => some (!y172) else some false) = some false := by
   rcases a13 with a13 | a13
   ·rw [a13]; rfl
   ·rw [a13]; cases (!(l[k].Carrier == [])) <;> rfl
  have m4 : (bif decide ((k : Int) > 0) then (idx l (IntKind.wrap .i64 ((k : Int) - 1))).bind fun y203 => (uF171 y203 l[k]).bind fun y209 => some (decide (y209 ≥ 0)) else some false) = some false := by
   by_cases h0 : 0 < k
   ·obtain ⟨p, n, p1, p2, p3⟩ := a14 h0
    have w1 : IntKind.wrap .i64 ((k : Int) - 1) = ((k - 1 : Nat) : Int) := by rw [w64 (by omega) (by omega)]; omega
    have d0 : decide ((k : Int) > 0) = true := by simpa using h0
    obtain ⟨_, _, _, b4, b5, _⟩ := h2 _ _ p1;obtain ⟨n', q1, q2⟩ := compare_of p2 p3 ⟨b4, b5⟩ ⟨a4, a5⟩;have d1 : decide (n' ≥ 0) = false := by simp; omega
    simp only [d0, cond_true, w1, idx_nat, p1, Option.bind_some, q1, d1]
   ·have d0 : decide ((k : Int) > 0) = false := by simp; omega
    simp only [d0, cond_false]
  have m5 : mget (ids [] (l.take k)) l[k].Id = none := by
   rw [ids_get]
   ·rfl
   ·intro hm
    have e : l.map (·.Id) = (l.take k).map (·.Id) ++ (l.drop k).map (·.Id) := by rw [← List.map_append, List.take_append_drop]
    rw [e, List.nodup_append] at h4;exact h4.2.2 _ hm _ (List.mem_map.2 ⟨l[k], by rw [List.drop_eq_getElem_cons hk]; exact List.mem_cons_self, rfl⟩) rfl
  simp only [uF116, hd, cond_true, idx_at hk, Option.bind_some, a1, a2, a3, Bool.not_true, cond_false, m1, m2 _ _ _ a6 a7, m2 _ _ _ a8 a9, m2 _ _ _ a10 a11, a12, beq_self_eq_true, bnd, m3, m4, m5, Option.getD_none, Bool.or_false, w];rw [List.take_succ_eq_append_getElem hk, ids_add]) (by simp [uF116])
 have key' : loopO (fun s : List (List UInt8 × Bool) × Bool × Int => uF116 l s.1 s.2.1 s.2.2) ([], false, 0) = some (.inl false) := key;simp only [uF116a, hc, cond_false, key', lret]
def pxs : List (List UInt8) := [[], [43, 52], [43, 52, 57], [43, 52, 57, 51, 48], [43, 53]]
def PX (i : Nat) : List UInt8 := pxs.getD i []
def nms : List (List UInt8) := [[104, 111, 109, 101], [110, 101, 97, 114], [102, 97, 114]]
def inss : List (List (List UInt8)) := [[], [[104, 111, 109, 101]], [[104, 111, 109, 101], [110, 101, 97, 114]]]
def CGood (c : uT2) : Prop := c.Name ∈ nms ∧ 0 ≤ c.Setup ∧ c.Setup ≤ 1000 ∧ 0 ≤ c.First ∧ c.First ≤ 60000 ∧ 1 ≤ c.Step ∧ c.Step ≤ 60000 ∧ 0 ≤ c.Rate ∧ c.Rate ≤ 500
def Srt (cs : List uT2) (top : Nat) : Prop := ∃ js : List Nat, js.length = cs.length ∧ (∀ m (h : m < cs.length), ∃ j, js[m]? = some j ∧ cs[m].Prefix = PX j) ∧ (∀ j ∈ js, j < top) ∧ js.Pairwise (· < ·)
def TGood (t : uT3) : Prop := t.Classes.length ≤ 5 ∧ (∀ c ∈ t.Classes, CGood c) ∧ Srt t.Classes 5 ∧ 0 ≤ t.Free ∧ t.Free ≤ 90000 ∧ t.Inside ∈ inss

theorem Srt.add {cs : List uT2} {n : Nat} (h : Srt cs n) {c : uT2} (hc : c.Prefix = PX n) : Srt (cs ++ [c]) (n + 1) := by
 obtain ⟨js, h1, h2, h3, h4⟩ := h;refine ⟨js ++ [n], by simp [h1], fun m hm => ?_, fun j hj => ?_, ?_⟩
 ·simp at hm
  by_cases e : m < cs.length
  ·obtain ⟨j, p1, p2⟩ := h2 m e
   exact ⟨j, by rw [List.getElem?_append_left (by omega), p1], by rw [List.getElem_append_left e, p2]⟩
  ·have e2 : m = cs.length := by omega
   subst e2;exact ⟨n, by simp [← h1], by simp [hc]⟩
 ·rcases List.mem_append.1 hj with hj | hj
  ·have := h3 j hj; omega
  ·simp at hj; omega
 ·rw [List.pairwise_append]
  exact ⟨h4, by simp, fun x hx y hy => by simp at hy; have := h3 x hx; omega⟩
theorem Srt.up {cs : List uT2} {n m : Nat} (h : Srt cs n) (e : n ≤ m) : Srt cs m := by
 obtain ⟨js, h1, h2, h3, h4⟩ := h;exact ⟨js, h1, h2, fun j hj => Nat.lt_of_lt_of_le (h3 j hj) e, h4⟩

theorem tariff_is (s0 : uT1) (k : Int) (hs : SOk s0 k) (hk : k ≤ 100) : ∃ s' t, uF9 s0 = some (s', t) ∧ TGood t ∧ SOk s' (k + 40) := by
 obtain ⟨fr, e1, fr1⟩ := pick_in s0 [0, 0, 60000, 90000] _ hs (by omega) (by simp) (by simp);have fr2 : 0 ≤ fr ∧ fr ≤ 90000 := by simp at fr1; omega
 obtain ⟨u, e2, u1, u2⟩ := next_is ⟨s0.L, s0.at_ + 1⟩ 3 _ hs.one (by omega) (by omega) (by omega);obtain ⟨ins, hins, hinm⟩ := idx_of (l := inss) u1 (by simpa [inss] using u2);obtain ⟨e, h1, h2⟩ := loopO_ind (step := fun s : Int × uT3 × uT1 => uF9a s.1 s.2.1 s.2.2)
  (fun q => (∃ n : Nat, q.1 = (n : Int) ∧ n ≤ 5 ∧ (q.2.1.Classes.length : Int) ≤ n ∧ Srt q.2.1.Classes n) ∧ (∀ c ∈ q.2.1.Classes, CGood c) ∧ q.2.1.Free = fr ∧ q.2.1.Inside = ins ∧ SOk q.2.2 (k + 2 + 6 * q.1))
  (fun e => TGood e.1 ∧ SOk e.2 (k + 40)) (fun q => (5 - q.1).toNat) (fun q hq => by
   obtain ⟨n0, ⟨cs, f0, i0⟩, s⟩ := q;obtain ⟨⟨n, rfl, q1, q2, q3⟩, q4, q5, q6, q7⟩ := hq;simp only [] at q1 q2 q3 q4 q5 q6 q7;subst q5; subst q6;simp only [uF9a];have hlen : ((List.length (([([] : List UInt8), ([43, 52] : List UInt8), ([43, 52, 57] : List UInt8), ([43, 52, 57, 51, 48] : List UInt8), ([43, 53] : List UInt8)] : List (List UInt8))) : Nat) : Int) = 5 := rfl;rw [hlen];by_cases hlt : (n : Int) < 5
   ·have hpx : idx ([([] : List UInt8), ([43, 52] : List UInt8), ([43, 52, 57] : List UInt8), ([43, 52, 57, 51, 48] : List UInt8), ([43, 53] : List UInt8)] : List (List UInt8)) (n : Int) = some (PX n) := by
     rw [idx_nat];rcases (by omega : n = 0 ∨ n = 1 ∨ n = 2 ∨ n = 3 ∨ n = 4) with rfl | rfl | rfl | rfl | rfl <;> rfl
    obtain ⟨f1, g1⟩ := flip_is s 3 _ q7 (by omega) (by omega) (by omega);cases f1 with
    | true =>
     refine .inr ⟨((n : Int) + 1, ⟨cs, f0, i0⟩, ⟨s.L, s.at_ + 1⟩), ?_, ⟨⟨n + 1, by (try simp only []); omega, by omega, by (try simp only []); omega, q3.up (by omega)⟩, q4, rfl, rfl, q7.one.up (by (try simp only []); omega)⟩, by (try simp only []); omega⟩;simp only [hlt, decide_true, cond_true, hpx, Option.bind_some, g1];rw [w64 (by omega) (by omega)]
    | false =>
     obtain ⟨nm, g2, nm1⟩ := some_in ⟨s.L, s.at_ + 1⟩ nms _ q7.one (by omega) (by simp [nms]) (by simp [nms]);obtain ⟨a, g3, a1⟩ := pick_in ⟨s.L, s.at_ + 1 + 1⟩ [0, 0, 1000, 999] _ q7.one.one (by omega) (by simp) (by simp);obtain ⟨b, g4, b1⟩ := pick_in ⟨s.L, s.at_ + 1 + 1 + 1⟩ [0, 0, 60000] _ q7.one.one.one (by omega) (by simp) (by simp);obtain ⟨c, g5, c1⟩ := pick_in ⟨s.L, s.at_ + 1 + 1 + 1 + 1⟩ [1, 1000, 60000] _ q7.one.one.one.one (by omega) (by simp) (by simp);obtain ⟨d, g6, d1⟩ := pick_in ⟨s.L, s.at_ + 1 + 1 + 1 + 1 + 1⟩ [0, 1, 10, 500] _ q7.one.one.one.one.one (by omega) (by simp) (by simp);have a2 : 0 ≤ a ∧ a ≤ 1000 := by simp at a1; omega
     have b2 : 0 ≤ b ∧ b ≤ 60000 := by simp at b1; omega
     have c2 : 1 ≤ c ∧ c ≤ 60000 := by simp at c1; omega
     have d2 : 0 ≤ d ∧ d ≤ 500 := by simp at d1; omega
     refine .inr ⟨((n : Int) + 1, ⟨cs ++ [⟨PX n, nm, a, b, c, d⟩], f0, i0⟩, ⟨s.L, s.at_ + 1 + 1 + 1 + 1 + 1 + 1⟩), ?_, ⟨⟨n + 1, by (try simp only []); omega, by omega, by simp; omega, q3.add rfl⟩, fun x hx => ?_, rfl, rfl, q7.one.one.one.one.one.one.up (by (try simp only []); omega)⟩, by (try simp only []); omega⟩
     ·simp only [nms] at g2
      simp only [hlt, decide_true, cond_true, cond_false, hpx, Option.bind_some, g1, g2, g3, g4, g5, g6];rw [app_of (by simp; omega) (by simp; omega), w64 (by omega) (by omega)];rfl
     ·rcases List.mem_append.1 hx with hx | hx
      ·exact q4 x hx
      ·simp at hx; subst hx
       exact ⟨nm1, a2.1, a2.2, b2.1, b2.2, c2.1, c2.2, d2.1, d2.2⟩
   ·refine .inl ⟨(⟨cs, f0, i0⟩, s), by simp [hlt], ⟨by (try simp only []); omega, q4, q3.up (by omega), fr2.1, fr2.2, hinm⟩, q7.up (by (try simp only []); omega)⟩) (0, ⟨[], fr, ins⟩, ⟨s0.L, s0.at_ + 1 + 1⟩)
  ⟨⟨0, rfl, by omega, by simp, ⟨[], rfl, fun m h => by simp at h, by simp, by simp⟩⟩, by simp, rfl, rfl, hs.one.one.up (by (try simp only []); omega)⟩
 obtain ⟨t, s'⟩ := e;refine ⟨s', t, ?_, h2.1, h2.2⟩;simp only [inss] at hins;simp only [uF9, e1, Option.bind_some, e2, hins, h1]

theorem pre_all : (List.range 5).all (fun i => uF170 (PX i) == some true) = true := by kernel_rfl
theorem pre_ok {j : Nat} (h : j < 5) : uF170 (PX j) = some true := by simpa using List.all_eq_true.1 pre_all j (List.mem_range.2 h)
theorem key_all : nms.all (fun n => uF69 n == some true) = true := by kernel_rfl
theorem key_ok {n : List UInt8} (h : n ∈ nms) : uF69 n = some true := by simpa using List.all_eq_true.1 key_all n h
theorem less_all : (List.range 5).all (fun i => (List.range i).all fun j => !(Op.bytesLess (PX i) (PX j) || PX i == PX j)) = true := by kernel_rfl
theorem less_no {i j : Nat} (h : j < i) (hi : i < 5) : (Op.bytesLess (PX i) (PX j) || PX i == PX j) = false := by
 have := List.all_eq_true.1 (List.all_eq_true.1 less_all i (List.mem_range.2 hi)) j (List.mem_range.2 h)
 simpa using this
theorem within_is (n lo hi : Int) : uF120 n lo hi = some (decide (n ≥ lo) && decide (n ≤ hi)) := rfl
theorem within_ok {n lo hi : Int} (h1 : lo ≤ n) (h2 : n ≤ hi) : uF120 n lo hi = some true := by simp [within_is, h1, h2]
theorem Srt.two {cs : List uT2} (h : Srt cs 5) {a b : Nat} (hab : a < b) (hb : b < cs.length) : ∃ i j, i < j ∧ j < 5 ∧ (cs[a]'(by omega)).Prefix = PX i ∧ cs[b].Prefix = PX j := by
 obtain ⟨js, h1, h2, h3, h4⟩ := h;obtain ⟨i, p1, p2⟩ := h2 a (by omega);obtain ⟨j, q1, q2⟩ := h2 b hb;have ha' : a < js.length := by omega
 have hb' : b < js.length := by omega
 rw [List.getElem?_eq_getElem ha'] at p1;rw [List.getElem?_eq_getElem hb'] at q1
 have := List.pairwise_iff_getElem.1 h4 a b ha' hb' hab
 obtain rfl := Option.some.inj p1;obtain rfl := Option.some.inj q1;exact ⟨_, _, this, h3 _ (List.getElem_mem hb'), p2, q2⟩
theorem Srt.one {cs : List uT2} (h : Srt cs 5) {a : Nat} (ha : a < cs.length) : ∃ i, i < 5 ∧ cs[a].Prefix = PX i := by
 obtain ⟨js, h1, h2, h3, h4⟩ := h;obtain ⟨i, p1, p2⟩ := h2 a ha;exact ⟨i, h3 _ (List.mem_of_getElem? p1), p2⟩

theorem inside_is (cs : List uT2) (fr : Int) (l : List (List UInt8)) (h : l ∈ inss) : loopO (fun s : Int => uF115 ⟨cs, fr, l⟩ s) 0 = some (.inl ()) ∧ l.length ≤ 2 := by
 have k1 : uF69 [104, 111, 109, 101] = some true := key_ok (by simp [nms]);have k2 : uF69 [110, 101, 97, 114] = some true := key_ok (by simp [nms]);have k3 : Op.bytesLess ([110, 101, 97, 114] : List UInt8) [104, 111, 109, 101] = false := by kernel_rfl
 simp only [inss, List.mem_cons, List.not_mem_nil, or_false] at h;rcases h with rfl | rfl | rfl
 ·refine ⟨?_, by simp⟩
  have := loop_for (N := 0) (step := fun s : Int => uF115 ⟨cs, fr, []⟩ s) (fun k => (k : Int)) (.inl ()) (fun k hk => by omega) (by simp [uF115])
  simpa using this
 ·refine ⟨?_, by simp⟩
  have := loop_for (N := 1) (step := fun s : Int => uF115 ⟨cs, fr, [[104, 111, 109, 101]]⟩ s) (fun k => (k : Int)) (.inl ()) (fun k hk => by
   obtain rfl : k = 0 := by omega
   simp [uF115, idx, k1, w64]) (by simp [uF115])
  simpa using this
 ·refine ⟨?_, by simp⟩
  have := loop_for (N := 2) (step := fun s : Int => uF115 ⟨cs, fr, [[104, 111, 109, 101], [110, 101, 97, 114]]⟩ s) (fun k => (k : Int)) (.inl ()) (fun k hk => by
   rcases (by omega : k = 0 ∨ k = 1) with rfl | rfl
   ·simp [uF115, idx, k1, w64]
   ·simp [uF115, idx, k2, w64]
    rw [k3]; rfl) (by simp [uF115])
  simpa using this
theorem checkT_is (t : uT3) (h : TGood t) : uF115b t = some 0 := by
 obtain ⟨cs, fr, ins⟩ := t;obtain ⟨h1, h2, h3, h4, h5, h6⟩ := h;simp only [] at h1 h2 h3 h4 h5 h6;obtain ⟨i1, i2⟩ := inside_is cs fr ins h6;have hl : loopO (fun s : Int => uF115a ⟨cs, fr, ins⟩ s) 0 = some (.inl ()) := by
  have := loop_for (N := cs.length) (step := fun s : Int => uF115a ⟨cs, fr, ins⟩ s) (fun k => (k : Int)) (.inl ()) (fun k hk => by
   obtain ⟨c1, c2, c3, c4, c5, c6, c7, c8, c9⟩ := h2 _ (List.getElem_mem hk);obtain ⟨j, hj, hpx⟩ := h3.one hk;have prev : (bif (decide ((k : Int) > ((0 : Int)))) then ((idx cs ((IntKind.wrap .i64 ((k : Int) - ((1 : Int)))))).bind fun y147 => some ((Op.bytesLess cs[k].Prefix y147.Prefix || cs[k].Prefix == y147.Prefix))) else (some false)) = some false := by
    by_cases h0 : k = 0
    ·subst h0; simp
    ·have e : IntKind.wrap .i64 ((k : Int) - 1) = ((k - 1 : Nat) : Int) := by rw [w64 (by omega) (by omega)]; omega
     obtain ⟨a, b, hab, hb, e1, e2⟩ := h3.two (a := k - 1) (b := k) (by omega) hk;have hpos : (decide ((k : Int) > 0)) = true := by simp; omega
     rw [hpos, e, idx_at (by omega : k - 1 < cs.length)];simp only [cond_true, Option.bind_some, e1, e2, less_no hab hb]
   simp only [uF115a];have hlt : (decide ((k : Int) < (cs.length : Int))) = true := by simp; exact hk
   rw [hlt, idx_at hk];simp only [cond_true, Option.bind_some, Bool.not_true, cond_false];rw [show uF170 cs[k].Prefix = some true by rw [hpx]; exact pre_ok hj, key_ok c1, within_ok c2 (by omega)];simp only [cond_true, Option.bind_some, Bool.not_true, cond_false];rw [within_ok c8 (by omega)];simp only [cond_true, Option.bind_some, Bool.not_true, cond_false];rw [within_ok c4 (by omega)];simp only [cond_true, Option.bind_some, Bool.not_true, cond_false];rw [within_ok c6 (by omega)];simp only [cond_true, Option.bind_some, Bool.not_true, cond_false];rw [prev];simp only [Option.bind_some, cond_false];rw [w64 (by omega) (by omega)];rfl) (by simp [uF115a])
  simpa using this
 have n1 : (decide ((cs.length : Int) > 200)) = false := by simp; omega
 have n2 : (decide ((ins.length : Int) > 200)) = false := by simp; omega
 simp only [uF115b, n1, n2, hl, i1, lret, cond_false, within_ok h4 (show fr ≤ 2592000000 by omega), Option.bind_some, Bool.not_true]

def cost (c : uT2) (talk : Int) : Int := c.Setup + c.Rate * (((if talk - c.First > 0 then talk - c.First else 0) + c.Step - 1) / c.Step)
theorem price_is (c : uT2) (h : CGood c) (talk : Int) (h1 : 1 ≤ talk) (h2 : talk ≤ 86400000) : uF121 c talk = some (cost c talk) := by
 obtain ⟨c1, c2, c3, c4, c5, c6, c7, c8, c9⟩ := h;have e0 : (talk == (0 : Int)) = false := by simp; omega
 have e1 : IntKind.wrap .i64 (talk - c.First) = talk - c.First := w64 (by omega) (by omega);simp only [uF121, e0, cond_false, e1, gmax];generalize ho : (if talk - c.First > 0 then talk - c.First else 0) = o;have o1 : 0 ≤ o ∧ o ≤ 86400000 := by subst ho; split <;> omega
 rw [w64 (n := o + c.Step) (by omega) (by omega), w64 (n := o + c.Step - 1) (by omega) (by omega)];have hs : ¬ c.Step = 0 := by omega
 have q0 : 0 ≤ (o + c.Step - 1) / c.Step := Int.ediv_nonneg (by omega) (by omega);have q1 : (o + c.Step - 1) / c.Step ≤ o + c.Step - 1 := Int.ediv_le_self _ (by omega);have eq : (o + c.Step - 1).tdiv c.Step = (o + c.Step - 1) / c.Step := Int.tdiv_eq_ediv_of_nonneg (by omega);have r1 : 0 ≤ c.Rate * ((o + c.Step - 1) / c.Step) := Int.mul_nonneg c8 q0;have r2 : c.Rate * ((o + c.Step - 1) / c.Step) ≤ 500 * 87000000 := Int.mul_le_mul c9 (by omega) q0 (by omega);simp only [gquo, hs, if_false, Option.bind_some, bnd, eq];rw [w64 (n := (o + c.Step - 1) / c.Step) (by omega) (by omega), w64 (n := c.Rate * _) (by omega) (by omega), w64 (by omega) (by omega)];simp only [cost, ho]
theorem wu64 {n : Int} (h1 : 0 ≤ n) (h2 : n ≤ 1000) : IntKind.wrap .u64 n = n := by unfold IntKind.wrap; simp [IntKind.signed, IntKind.bits]; omega
theorem mid_is {i j : Int} (h0 : 0 ≤ i) (h1 : i < j) (h2 : j ≤ 5) : IntKind.wrap .i64 (Int.fdiv (IntKind.wrap .u64 (IntKind.wrap .i64 (i + j))) (2 ^ 1)) = (i + j) / 2 := by
 rw [w64 (n := i + j) (by omega) (by omega), wu64 (by omega) (by omega)];have : Int.fdiv (i + j) (2 ^ 1) = (i + j) / 2 := by rw [Int.fdiv_eq_ediv_of_nonneg _ (by decide)]; rfl
 rw [this, w64 (by omega) (by omega)]
theorem sub_take {n : List UInt8} {k : Nat} (h : k ≤ n.length) : sub n 0 (k : Int) = some (n.take k) := by
 have h1 : (0 : Int) ≤ k := by omega
 have h2 : (k : Int) ≤ n.length := by omega
 simp [sub, h2, h1]

theorem search_is (cs : List uT2) (hl : cs.length ≤ 5) (k : List UInt8) : ∃ i b, uF117 cs k (fun a0 a1 => uF118 a0 a1) = some (i, b) ∧ (b = true → ∃ c, idx cs i = some c ∧ c ∈ cs) := by
 have tt : ∀ c : uT2, ∃ n, uF118 c k = some n := fun c => ⟨_, rfl⟩;obtain ⟨e, h1, h2, h3⟩ := loopO_ind (step := fun s : Int × Int => uF117a cs k (fun a0 a1 => uF118 a0 a1) s.1 s.2) (fun q => 0 ≤ q.1 ∧ q.1 ≤ q.2 ∧ q.2 ≤ cs.length)
  (fun e => 0 ≤ e ∧ e ≤ cs.length) (fun q => (q.2 - q.1).toNat) (fun q hq => by
   obtain ⟨i, j⟩ := q;obtain ⟨q0, q1, q2⟩ := hq;simp only [] at q0 q1 q2;simp only [uF117a];by_cases hlt : i < j
   ·obtain ⟨x, hx, _⟩ := idx_of (l := cs) (n := (i + j) / 2) (by omega) (by omega)
    obtain ⟨n, hn⟩ := tt x;simp only [hlt, decide_true, cond_true, mid_is q0 hlt (by omega), bnd, hx, Option.bind_some, hn];cases decide (n < 0) with
    | true =>
     simp only [cond_true];rw [w64 (by omega) (by omega)];exact .inr ⟨_, rfl, ⟨by (try simp only []); omega, by (try simp only []); omega, by (try simp only []); omega⟩, by (try simp only []); omega⟩
    | false =>
     simp only [cond_false];exact .inr ⟨_, rfl, ⟨by (try simp only []); omega, by (try simp only []); omega, by (try simp only []); omega⟩, by (try simp only []); omega⟩
   ·exact .inl ⟨i, by simp [hlt], q0, by omega⟩) (0, (cs.length : Int)) ⟨by simp, by simp, by simp⟩
 simp only [uF117, bnd, h1, Option.bind_some];by_cases hlt : e < (cs.length : Int)
 ·obtain ⟨x, hx, hm⟩ := idx_of (l := cs) h2 hlt
  obtain ⟨n, hn⟩ := tt x;simp only [hlt, decide_true, cond_true, hx, Option.bind_some, hn];exact ⟨e, _, rfl, fun _ => ⟨x, hx, hm⟩⟩
 ·simp only [hlt, decide_false, cond_false, Option.bind_some]
  exact ⟨e, _, rfl, fun h => by simp at h⟩
theorem class_is (t : uT3) (h : TGood t) (n : List UInt8) (hn : n.length ≤ 1000) : ∃ c b, uF56 t n = some (c, b) ∧ (b = true → c ∈ t.Classes) := by
 obtain ⟨e, h1, h2⟩ := loopO_ind (step := fun s : Int × uT2 => uF56a t n s.1 s.2) (fun q => -1 ≤ q.1 ∧ q.1 ≤ n.length)
  (fun e => match e with
   | .inl _ => True
   | .inr r => r.2 = true ∧ r.1 ∈ t.Classes) (fun q => (q.1 + 1).toNat) (fun q hq => by
   obtain ⟨k, c⟩ := q;obtain ⟨q0, q1⟩ := hq;simp only [] at q0 q1;simp only [uF56a];by_cases hk : k ≥ 0
   ·obtain ⟨m, rfl⟩ := Int.eq_ofNat_of_zero_le hk
    obtain ⟨i, b, e1, e2⟩ := search_is t.Classes h.1 (n.take m);simp only [hk, decide_true, cond_true, sub_take (n := n) (k := m) (by omega), Option.bind_some, e1];cases b with
    | true =>
     obtain ⟨x, hx, hm⟩ := e2 rfl;simp only [cond_true, hx, Option.bind_some];exact .inl ⟨_, rfl, rfl, hm⟩
    | false =>
     simp only [cond_false, bnd];rw [w64 (by omega) (by omega)];exact .inr ⟨_, rfl, ⟨by (try simp only []); omega, by (try simp only []); omega⟩, by (try simp only []); omega⟩
   ·exact .inl ⟨.inl c, by simp [hk], trivial⟩) ((n.length : Int), ⟨[], [], 0, 0, 0, 0⟩) ⟨by simp only []; omega, by simp⟩
 simp only [uF56, bnd, h1, lret];match e, h2 with
 | .inl _, _ => exact ⟨_, _, rfl, fun h => by simp at h⟩
 | .inr r, h2 => exact ⟨r.1, r.2, rfl, fun _ => h2.2⟩

/-! Payers. -/
def PY : List uT5 := [⟨[97, 110, 110], [[43, 49, 50, 48, 48], [43, 49, 50, 48, 50]]⟩, ⟨[98, 111, 98], [[43, 49, 50, 48, 49]]⟩, ⟨[99, 105, 100], []⟩]
def MM : List (List (List UInt8 × Bool)) := [[], [([43, 49, 50, 48, 48], true), ([43, 49, 50, 48, 50], true)], [([43, 49, 50, 48, 48], true), ([43, 49, 50, 48, 50], true), ([43, 49, 50, 48, 49], true)], [([43, 49, 50, 48, 48], true), ([43, 49, 50, 48, 50], true), ([43, 49, 50, 48, 49], true)]]
def OO : List (List (List UInt8 × List UInt8)) := [[], [([43, 49, 50, 48, 48], [97, 110, 110]), ([43, 49, 50, 48, 50], [97, 110, 110])], [([43, 49, 50, 48, 48], [97, 110, 110]), ([43, 49, 50, 48, 50], [97, 110, 110]), ([43, 49, 50, 48, 49], [98, 111, 98])], [([43, 49, 50, 48, 48], [97, 110, 110]), ([43, 49, 50, 48, 50], [97, 110, 110]), ([43, 49, 50, 48, 49], [98, 111, 98])]]
def PK (k : Nat) : uT5 := PY.getD k ⟨[], []⟩
def MK (k : Nat) : List (List UInt8 × Bool) := MM.getD k []
def OK (k : Nat) : List (List UInt8 × List UInt8) := OO.getD k []
theorem payers_is (s : uT1) (k : Int) (hs : SOk s k) (hk : k ≤ 1000) : ∃ m, 1 ≤ m ∧ m ≤ 3 ∧ uF10 s = some (⟨s.L, s.at_ + 1⟩, PY.take m) := by
 obtain ⟨r, e, r1⟩ := pick_in s [1, 2, 3, 3] _ hs (by omega) (by simp) (by simp);simp only [List.mem_cons, List.not_mem_nil, or_false] at r1;obtain ⟨m, rfl, m1, m2⟩ : ∃ m : Nat, r = m ∧ 1 ≤ m ∧ m ≤ 3 := ⟨r.toNat, by omega, by omega, by omega⟩;refine ⟨m, m1, m2, ?_⟩;simp only [uF10, e, Option.bind_some];rcases (by omega : m = 1 ∨ m = 2 ∨ m = 3) with rfl | rfl | rfl <;> rfl
theorem in_0 : loopO (fun s : List (List UInt8 × Bool) × Int => uF67a (PK 0) s.1 s.2) (MK 0, 0) = some (.inl (MK 1)) := loopO_of (n := 5) (by kernel_rfl)
theorem in_1 : loopO (fun s : List (List UInt8 × Bool) × Int => uF67a (PK 1) s.1 s.2) (MK 1, 0) = some (.inl (MK 2)) := loopO_of (n := 5) (by kernel_rfl)
theorem in_2 : loopO (fun s : List (List UInt8 × Bool) × Int => uF67a (PK 2) s.1 s.2) (MK 2, 0) = some (.inl (MK 3)) := loopO_of (n := 5) (by kernel_rfl)
theorem in_is {k : Nat} (hk : k < 3) : loopO (fun s : List (List UInt8 × Bool) × Int => uF67a (PK k) s.1 s.2) (MK k, 0) = some (.inl (MK (k + 1))) := by
 rcases (by omega : k = 0 ∨ k = 1 ∨ k = 2) with rfl | rfl | rfl
 ·exact in_0
 ·exact in_1
 ·exact in_2
theorem ow_0 : loopO (fun s : List (List UInt8 × List UInt8) × Int => uF55a (PK 0) s.1 s.2) (OK 0, 0) = some (OK 1) := loopO_of (n := 5) (by kernel_rfl)
theorem ow_1 : loopO (fun s : List (List UInt8 × List UInt8) × Int => uF55a (PK 1) s.1 s.2) (OK 1, 0) = some (OK 2) := loopO_of (n := 5) (by kernel_rfl)
theorem ow_2 : loopO (fun s : List (List UInt8 × List UInt8) × Int => uF55a (PK 2) s.1 s.2) (OK 2, 0) = some (OK 3) := loopO_of (n := 5) (by kernel_rfl)
theorem ow_is {k : Nat} (hk : k < 3) : loopO (fun s : List (List UInt8 × List UInt8) × Int => uF55a (PK k) s.1 s.2) (OK k, 0) = some (OK (k + 1)) := by
 rcases (by omega : k = 0 ∨ k = 1 ∨ k = 2) with rfl | rfl | rfl
 ·exact ow_0
 ·exact ow_1
 ·exact ow_2
theorem py_len {m : Nat} (h : m ≤ 3) : (PY.take m).length = m := by simp [PY]; omega
theorem py_idx {m k : Nat} (h : m ≤ 3) (hk : k < m) : idx (PY.take m) (k : Int) = some (PK k) := by
 rw [idx_nat, List.getElem?_take_of_lt hk];rcases (by omega : k = 0 ∨ k = 1 ∨ k = 2) with rfl | rfl | rfl <;> rfl
theorem pk_all : (List.range 3).all (fun k => uF69 (PK k).Key == some true && decide ((PK k).Numbers.length ≤ 500) && (List.range k).all fun j => !(Op.bytesLess (PK k).Key (PK j).Key || (PK k).Key == (PK j).Key)) = true := by kernel_rfl
theorem payers_ok {m : Nat} (h : m ≤ 3) : uF67b (PY.take m) = some 0 := by
 have hl := py_len h;have hc : decide ((List.length (PY.take m) : Int) > 500) = false := by rw [hl]; simp; omega
 have := loop_for (N := m) (step := fun s : List (List UInt8 × Bool) × Int => uF67 (PY.take m) s.1 s.2) (fun k => (MK k, (k : Int))) (.inl ()) (fun k hk => by
  have hd : decide ((k : Int) < (List.length (PY.take m) : Int)) = true := by rw [hl]; simp; omega
  have hz := List.all_eq_true.1 pk_all k (List.mem_range.2 (by omega));rw [Bool.and_eq_true, Bool.and_eq_true, beq_iff_eq, decide_eq_true_eq] at hz;obtain ⟨⟨z1, z2⟩, z3⟩ := hz;have z4 : decide ((List.length (PK k).Numbers : Int) > 500) = false := by simp; omega
  have z5 : (bif decide ((k : Int) > 0) then (idx (PY.take m) (IntKind.wrap .i64 ((k : Int) - 1))).bind fun y65 => some (Op.bytesLess (PK k).Key y65.Key || (PK k).Key == y65.Key) else some false) = some false := by
   by_cases h0 : 0 < k
   ·have w1 : IntKind.wrap .i64 ((k : Int) - 1) = ((k - 1 : Nat) : Int) := by rw [w64 (by omega) (by omega)]; omega
    have d0 : decide ((k : Int) > 0) = true := by simpa using h0
    have := List.all_eq_true.1 z3 (k - 1) (List.mem_range.2 (by omega))
    simp only [d0, cond_true, w1, py_idx h (by omega : k - 1 < m), Option.bind_some];rw [Bool.not_eq_true'] at this;rw [this]
   ·have d0 : decide ((k : Int) > 0) = false := by simp; omega
    simp only [d0, cond_false]
  simp only [uF67, hd, cond_true, py_idx h hk, Option.bind_some, z1, Bool.not_true, cond_false, z5, bnd, z4, in_is (by omega : k < 3), lret];rw [w64 (by omega) (by omega)]; rfl) (by
  have hd : decide ((m : Int) < (List.length (PY.take m) : Int)) = false := by rw [hl]; simp
  simp only [uF67, hd, cond_false])
 have this' : loopO (fun s : List (List UInt8 × Bool) × Int => uF67 (PY.take m) s.1 s.2) ([], 0) = some (.inl ()) := this;simp only [uF67b, hc, cond_false, this', lret]
theorem owners_is {m : Nat} (h : m ≤ 3) : uF55b (PY.take m) = some (OK m) := by
 have hl := py_len h
 have := loop_for (N := m) (step := fun s : List (List UInt8 × List UInt8) × Int => uF55 (PY.take m) s.1 s.2) (fun k => (OK k, (k : Int))) (OK m) (fun k hk => by
  have hd : decide ((k : Int) < (List.length (PY.take m) : Int)) = true := by rw [hl]; simp; omega
  simp only [uF55, hd, cond_true, py_idx h hk, Option.bind_some, ow_is (by omega : k < 3)];rw [w64 (by omega) (by omega)]; rfl) (by
  have hd : decide ((m : Int) < (List.length (PY.take m) : Int)) = false := by rw [hl]; simp
  simp only [uF55, hd, cond_false])
 have this' : loopO (fun s : List (List UInt8 × List UInt8) × Int => uF55 (PY.take m) s.1 s.2) ([], 0) = some (OK m) := this;simp only [uF55b, this', Option.bind_some]
theorem owner_key {m : Nat} (h1 : 1 ≤ m) (h : m ≤ 3) {n k : List UInt8} (hk : mget (OK m) n = some k) : k ∈ (PY.take m).map (·.Key) := by
 have key : ∀ (o : List (List UInt8 × List UInt8)), mget o n = some k → k ∈ o.map (·.2) := by
  intro o;induction o with
  | nil => intro h; cases h
  | cons a o ih =>
   obtain ⟨a, b⟩ := a;intro h;simp only [mget] at h;split at h
   ·cases h; simp
   ·exact List.mem_cons_of_mem _ (ih h)
 have := key _ hk
 rcases (by omega : m = 1 ∨ m = 2 ∨ m = 3) with rfl | rfl | rfl
 ·have h2 : (OK 1).map (·.2) = [[97, 110, 110], [97, 110, 110]] := rfl
  rw [h2] at this;have h3 : (PY.take 1).map (·.Key) = [[97, 110, 110]] := rfl;rw [h3]; simp at this ⊢; exact this
 ·have h2 : (OK 2).map (·.2) = [[97, 110, 110], [97, 110, 110], [98, 111, 98]] := rfl
  rw [h2] at this;have h3 : (PY.take 2).map (·.Key) = [[97, 110, 110], [98, 111, 98]] := rfl;rw [h3]; simp at this ⊢; exact this
 ·have h2 : (OK 3).map (·.2) = [[97, 110, 110], [97, 110, 110], [98, 111, 98]] := rfl
  rw [h2] at this;have h3 : (PY.take 3).map (·.Key) = [[97, 110, 110], [98, 111, 98], [99, 105, 100]] := rfl;rw [h3]; simp at this ⊢; rcases this with h | h
  ·exact .inl h
  ·exact .inr (.inl h)
theorem py_nodup {m : Nat} (h : m ≤ 3) : ((PY.take m).map (·.Key)).Nodup := by
 rcases (by omega : m = 0 ∨ m = 1 ∨ m = 2 ∨ m = 3) with rfl | rfl | rfl | rfl <;> decide
/-! Sums. -/
def gS (w : uT4 → Int) (k : List UInt8) : List uT4 → Int
  | [] => 0
  | y :: l => (if y.Payer = k then w y else 0) + gS w k l
def tS (w : uT4 → Int) : List uT4 → Int
  | [] => 0
  | y :: l => w y + tS w l
def kS (f : List UInt8 → Int) : List (List UInt8) → Int
  | [] => 0
  | k :: l => f k + kS f l
theorem gS_add (w : uT4 → Int) (k : List UInt8) (y : uT4) : ∀ l, gS w k (l ++ [y]) = gS w k l + if y.Payer = k then w y else 0
 | [] => by simp [gS]
 | a :: l => by simp only [List.cons_append, gS, gS_add w k y l]; omega
theorem tS_add (w : uT4 → Int) (y : uT4) : ∀ l, tS w (l ++ [y]) = tS w l + w y
 | [] => by simp [tS]
 | a :: l => by simp only [List.cons_append, tS, tS_add w y l]; omega
theorem kS_add (f : List UInt8 → Int) (k : List UInt8) : ∀ l, kS f (l ++ [k]) = kS f l + f k
 | [] => by simp [kS]
 | a :: l => by simp only [List.cons_append, kS, kS_add f k l]; omega
theorem gS_nn {w : uT4 → Int} (k : List UInt8) : ∀ (l : List uT4), (∀ y ∈ l, 0 ≤ w y) → 0 ≤ gS w k l
 | [], _ => Int.le_refl 0
 | y :: l, h => by
  have h1 := gS_nn k l fun x hx => h x (List.mem_cons_of_mem _ hx)
  have h2 := h y List.mem_cons_self
  simp only [gS]; split <;> omega
theorem gS_app (w : uT4 → Int) (k : List UInt8) (m : List uT4) : ∀ l, gS w k (l ++ m) = gS w k l + gS w k m
 | [] => by simp [gS]
 | a :: l => by simp only [List.cons_append, gS, gS_app w k m l]; omega
theorem gS_take {w : uT4 → Int} (k : List UInt8) (l : List uT4) (h : ∀ y ∈ l, 0 ≤ w y) (n : Nat) : gS w k (l.take n) ≤ gS w k l := by
 have e : gS w k l = gS w k (l.take n) + gS w k (l.drop n) := by rw [← gS_app, List.take_append_drop]
 have := gS_nn k (l.drop n) fun y hy => h y (List.mem_of_mem_drop hy)
 omega
theorem tS_bound {w : uT4 → Int} {B : Int} : ∀ (l : List uT4), (∀ y ∈ l, 0 ≤ w y ∧ w y ≤ B) → 0 ≤ tS w l ∧ tS w l ≤ B * l.length
 | [], _ => ⟨Int.le_refl 0, by simp [tS]⟩
 | y :: l, h => by
  have h1 := tS_bound l fun x hx => h x (List.mem_cons_of_mem _ hx)
  have h2 := h y List.mem_cons_self
  have e : B * ((y :: l).length : Int) = B * (l.length : Int) + B := by rw [List.length_cons]; push_cast; rw [Int.mul_add, Int.mul_one]
  rw [e]; simp only [tS]; omega
theorem gS_le_tS {w : uT4 → Int} (k : List UInt8) : ∀ (l : List uT4), (∀ y ∈ l, 0 ≤ w y) → gS w k l ≤ tS w l
 | [], _ => Int.le_refl 0
 | y :: l, h => by
  have h1 := gS_le_tS k l fun x hx => h x (List.mem_cons_of_mem _ hx)
  have h2 := h y List.mem_cons_self
  simp only [gS, tS]; split <;> omega
theorem kS_zero : ∀ l : List (List UInt8), kS (fun _ => 0) l = 0
 | [] => rfl
 | k :: l => by simp [kS, kS_zero l]
theorem kS_plus (f g : List UInt8 → Int) : ∀ l, kS (fun k => f k + g k) l = kS f l + kS g l
 | [] => rfl
 | k :: l => by simp only [kS, kS_plus f g l]; omega
theorem kS_one (p : List UInt8) (a : Int) : ∀ (l : List (List UInt8)), l.Nodup → kS (fun k => if p = k then a else 0) l = if p ∈ l then a else 0
 | [], _ => by simp [kS]
 | k :: l, h => by
  rw [List.nodup_cons] at h
  simp only [kS, kS_one p a l h.2]
  by_cases e : p = k
  ·subst e; simp [h.1]
  ·simp [e]
theorem kS_all (w : uT4 → Int) {ks : List (List UInt8)} (hn : ks.Nodup) : ∀ (l : List uT4), (∀ y ∈ l, y.Payer ∈ ks) → kS (fun k => gS w k l) ks = tS w l
 | [], _ => by simp only [gS, tS]; exact kS_zero ks
 | y :: l, h => by
  have ih := kS_all w hn l fun x hx => h x (List.mem_cons_of_mem _ hx)
  simp only [gS, tS]
  rw [kS_plus, ih, kS_one _ _ _ hn, if_pos (h y List.mem_cons_self)]

/-! Classes of records; prices. -/
noncomputable def cl (t : uT3) (n : List UInt8) : uT2 × Bool := (uF56 t n).getD (⟨[], [], 0, 0, 0, 0⟩, false)
theorem cl_is {t : uT3} (h : TGood t) {n : List UInt8} (hn : n.length ≤ 1000) : uF56 t n = some (cl t n) ∧ ((cl t n).2 = true → (cl t n).1 ∈ t.Classes) := by
 obtain ⟨c, b, e, hb⟩ := class_is t h n hn;have : cl t n = (c, b) := by unfold cl; rw [e]; rfl
 rw [this];exact ⟨e, hb⟩
def kn (m : Nat) (r : uT0) : Bool := (mget (OK m) r.From).isSome
noncomputable def ch (t : uT3) (m : Nat) (r : uT0) : Bool := kn m r && (cl t r.To).2
theorem ph_len : PH.all (fun s => decide (s.length ≤ 1000)) = true := by decide
theorem to_len {r : uT0} (h : RInv r) : r.To.length ≤ 1000 := by simpa using List.all_eq_true.1 ph_len _ h.2.2.1
theorem price_le (c : uT2) (h : CGood c) (talk : Int) (h1 : 0 ≤ talk) (h2 : talk ≤ 86400000) : ∃ v, uF121 c talk = some v ∧ 0 ≤ v ∧ v ≤ 50000000000 := by
 by_cases h0 : talk = 0
 ·subst h0; exact ⟨0, rfl, by omega, by omega⟩
 ·refine ⟨_, price_is c h talk (by omega) h2, ?_⟩
  obtain ⟨c1, c2, c3, c4, c5, c6, c7, c8, c9⟩ := h;unfold cost;generalize ho : (if talk - c.First > 0 then talk - c.First else 0) = o;have o1 : 0 ≤ o ∧ o ≤ 86400000 := by subst ho; split <;> omega
  have q0 : 0 ≤ (o + c.Step - 1) / c.Step := Int.ediv_nonneg (by omega) (by omega);have q1 : (o + c.Step - 1) / c.Step ≤ o + c.Step - 1 := Int.ediv_le_self _ (by omega);have r1 : 0 ≤ c.Rate * ((o + c.Step - 1) / c.Step) := Int.mul_nonneg c8 q0;have r2 : c.Rate * ((o + c.Step - 1) / c.Step) ≤ 500 * 87000000 := Int.mul_le_mul c9 (by omega) q0 (by omega);omega

section
variable {t : uT3} {m : Nat} {x : List uT0}
theorem use_is (ht : TGood t) (hm : m ≤ 3) (hx : XGood x) : uF54 t (PY.take m) x = some 0 := by
 simp only [uF54, checkT_is t ht, Option.bind_some, bne_self_eq_false, cond_false, payers_ok hm, check_is hx]
theorem month_is (ht : TGood t) (hm : m ≤ 3) (hx : XGood x) {M : Int} (h0 : 0 ≤ M) (h1 : M < 8) : uF57 t (PY.take m) x M = some 0 := by
 have : uF120 M 0 132 = some true := within_ok h0 (by omega);simp only [uF57, use_is ht hm hx, Option.bind_some, bne_self_eq_false, cond_false, this, Bool.not_true]
noncomputable def up (t : uT3) (m : Nat) (r : uT0) : Bool := decide (r.Talk > 0) && !(ch t m r)
theorem unpaid_is (ht : TGood t) (hm : m ≤ 3) (hx : XGood x) : ∃ u, uF12 t (PY.take m) x = some (u, 0) ∧ u.length = x.countP (up t m) ∧ u.length ≤ 12 ∧ ∀ a ∈ u, ∃ (i : Nat) (r : uT0), a = (i : Int) ∧ x[i]? = some r ∧ ch t m r = false := by
 have hl := hx.1;obtain ⟨u, h1, h2, h3⟩ := loopO_ind (step := fun s : List Int × Int => uF12a t x (OK m) s.1 s.2) (fun q => 0 ≤ q.2 ∧ q.2 ≤ x.length ∧ q.1.length ≤ q.2.toNat ∧ q.1.length = (x.take q.2.toNat).countP (up t m) ∧ ∀ a ∈ q.1, ∃ (i : Nat) (r : uT0), a = (i : Int) ∧ x[i]? = some r ∧ ch t m r = false)
  (fun u => u.length = x.countP (up t m) ∧ ∀ a ∈ u, ∃ (i : Nat) (r : uT0), a = (i : Int) ∧ x[i]? = some r ∧ ch t m r = false) (fun q => (x.length - q.2).toNat) (fun q hq => by
   obtain ⟨u, n⟩ := q;obtain ⟨q0, q1, q2, q3, q4⟩ := hq;simp only [] at q0 q1 q2 q3 q4;obtain ⟨i, rfl⟩ := Int.eq_ofNat_of_zero_le q0;simp only [uF12a];by_cases hlt : i < x.length
   ·have hd : decide ((i : Int) < (List.length x : Int)) = true := by simpa using hlt
    have hr := hx.2.2.1 _ (List.getElem_mem hlt);have hi : x[i]? = some x[i] := by simp [hlt]
    have ec : ((!(mget (OK m) x[i].From).isSome) || (!(cl t x[i].To).2)) = !(ch t m x[i]) := by simp [ch, kn, Bool.not_and]
    have ti : ((i : Int) + 1).toNat = i + 1 := by omega
    simp only [Int.toNat_natCast] at q2 q3;simp only [hd, cond_true, idx_at hlt, Option.bind_some, bnd, (cl_is ht (to_len hr)).1, ec];have cnt : (x.take (i + 1)).countP (up t m) = (x.take i).countP (up t m) + if up t m x[i] = true then 1 else 0 := by
     rw [List.take_succ_eq_append_getElem hlt, List.countP_append, List.countP_singleton]
    cases hu : (decide (x[i].Talk > 0) && !(ch t m x[i])) with
    | true =>
     have hup : up t m x[i] = true := hu;rw [hup] at cnt;simp only [cond_true];rw [app_of (by simp; omega) (by simp; omega), w64 (by omega) (by omega)];refine .inr ⟨(u ++ [(i : Int)], (i : Int) + 1), rfl, ⟨by (try simp only []); omega, by (try simp only []); omega, by simp only [ti, List.length_append, List.length_cons, List.length_nil]; omega, by simp only [ti, List.length_append, List.length_cons, List.length_nil, cnt]; simp; omega, ?_⟩, by (try simp only []); omega⟩;intro a ha;rcases List.mem_append.1 ha with ha | ha
     ·exact q4 a ha
     ·simp at ha hu
      exact ⟨i, x[i], ha, hi, hu.2⟩
    | false =>
     have hup : up t m x[i] = false := hu;rw [hup] at cnt;simp only [cond_false];rw [w64 (by omega) (by omega)];exact .inr ⟨(u, (i : Int) + 1), rfl, ⟨by (try simp only []); omega, by (try simp only []); omega, by simp only [ti]; omega, by simp only [ti, cnt]; simp; omega, q4⟩, by (try simp only []); omega⟩
   ·have hd : decide ((i : Int) < (List.length x : Int)) = false := by simp; omega
    simp only [Int.toNat_natCast] at q3;rw [List.take_of_length_le (by omega)] at q3;exact .inl ⟨u, by simp only [hd, cond_false], q3, q4⟩) ([], 0) ⟨by simp, by simp, by simp, by simp, by simp⟩
 refine ⟨u, ?_, h2, by rw [h2]; exact Nat.le_trans List.countP_le_length hl, h3⟩;simp only [uF12, use_is ht hm hx, Option.bind_some, bne_self_eq_false, cond_false, owners_is hm, h1]

def YGood (t : uT3) (m : Nat) (x : List uT0) (M : Int) (y : uT4) : Prop := ∃ (i : Nat) (r : uT0), x[i]? = some r ∧ y.Record = r.Id ∧ ch t m r = true ∧ mget (OK m) r.From = some y.Payer ∧ 0 ≤ y.Free ∧ y.Free ≤ r.Talk ∧ 0 ≤ y.Cost ∧ y.Cost ≤ 50000000000 ∧ r.At.tdiv 2592000000 = M
noncomputable def cq (t : uT3) (m : Nat) (M : Int) (r : uT0) : Bool := decide (r.Talk > 0) && ch t m r && (r.At.tdiv 2592000000 == M)
def chs (l : List uT7) : List uT4 := l.map (·.Charge)
theorem idxS_is (l : List (List UInt8)) (x : List UInt8) (hl : l.length ≤ 4611686018427387904) : uF47 l x = some (l.any (x == ·)) := by
 have h : uF102 l x = some (idxI (x == ·) l) := idxE_loop l x hl;simp only [uF47, h, Option.bind_some, bnd, idxI_any]
theorem inside_len (ht : TGood t) : t.Inside.length ≤ 2 := by
 have h := ht.2.2.2.2.2;simp only [inss, List.mem_cons, List.not_mem_nil, or_false] at h;rcases h with h | h | h <;> rw [h] <;> simp
theorem charges_is (ht : TGood t) (hm : m ≤ 3) (hx : XGood x) {M : Int} (hM : 0 ≤ M) (hM8 : M < 8) : ∃ l, uF58 t (PY.take m) x M = some l ∧ l.length = x.countP (cq t m M) ∧ l.length ≤ 12 ∧ (∀ y ∈ chs l, YGood t m x M y) ∧ ∀ k, gS (·.Free) k (chs l) ≤ t.Free := by
 have hl := hx.1;have hF : 0 ≤ t.Free ∧ t.Free ≤ 90000 := ⟨ht.2.2.2.1, ht.2.2.2.2.1⟩;obtain ⟨l, h1, h2, h3, h4⟩ := loopO_ind (step := fun s : List (List UInt8 × Int) × List uT7 × Int => uF58a t x M (OK m) s.1 s.2.1 s.2.2)
  (fun q => 0 ≤ q.2.2 ∧ q.2.2 ≤ x.length ∧ q.2.1.length ≤ q.2.2.toNat ∧ q.2.1.length = (x.take q.2.2.toNat).countP (cq t m M) ∧ (∀ y ∈ chs q.2.1, YGood t m x M y) ∧ ∀ k, (mget q.1 k).getD 0 = gS (·.Free) k (chs q.2.1) ∧ gS (·.Free) k (chs q.2.1) ≤ t.Free)
  (fun l => l.length = x.countP (cq t m M) ∧ (∀ y ∈ chs l, YGood t m x M y) ∧ ∀ k, gS (·.Free) k (chs l) ≤ t.Free) (fun q => (x.length - q.2.2).toNat) (fun q hq => by
   obtain ⟨us, l, n⟩ := q;obtain ⟨q0, q1, q2, q3, q4, q5⟩ := hq;simp only [] at q0 q1 q2 q3 q4 q5;obtain ⟨i, rfl⟩ := Int.eq_ofNat_of_zero_le q0;simp only [uF58a];by_cases hlt : i < x.length
   ·have hd : decide ((i : Int) < (List.length x : Int)) = true := by simpa using hlt
    have hr := hx.2.2.1 _ (List.getElem_mem hlt);have hi : x[i]? = some x[i] := by simp [hlt]
    obtain ⟨_, _, _, a4, a5, a6, a7, a8, a9, _⟩ := hx.2.1 i _ hi;have ti : ((i : Int) + 1).toNat = i + 1 := by omega
    have wi : IntKind.wrap .i64 ((i : Int) + 1) = (i : Int) + 1 := w64 (by omega) (by omega);simp only [Int.toNat_natCast] at q2 q3;have cnt : (x.take (i + 1)).countP (cq t m M) = (x.take i).countP (cq t m M) + if cq t m M x[i] = true then 1 else 0 := by
     rw [List.take_succ_eq_append_getElem hlt, List.countP_append, List.countP_singleton]
    have wt : IntKind.wrap .i64 (Int.tdiv x[i].At 2592000000) = Int.tdiv x[i].At 2592000000 := by
     have := Int.tdiv_eq_ediv_of_nonneg (a := x[i].At) (b := 2592000000) a4
     rw [this]; exact w64 (by omega) (by omega)
    obtain ⟨c1, c2⟩ := cl_is ht (to_len hr);have ec : ((((x[i].Talk == 0) || (Int.tdiv x[i].At 2592000000 != M)) || (!(mget (OK m) x[i].From).isSome)) || (!(cl t x[i].To).2)) = !(cq t m M x[i]) := by
     have e0 : (x[i].Talk == 0) = !(decide (x[i].Talk > 0)) := by
      by_cases h : x[i].Talk = 0
      ·simp [h]
      ·have h' : x[i].Talk > 0 := by omega
       simp [h, h']
     have e1 : (Int.tdiv x[i].At 2592000000 != M) = !(Int.tdiv x[i].At 2592000000 == M) := rfl;rw [e0, e1];simp only [cq, ch, kn];generalize decide (x[i].Talk > 0) = b1;generalize (Int.tdiv x[i].At 2592000000 == M) = b2;generalize (mget (OK m) x[i].From).isSome = b3;generalize (cl t x[i].To).2 = b4;cases b1 <;> cases b2 <;> cases b3 <;> cases b4 <;> rfl
    simp only [hd, cond_true, idx_at hlt, Option.bind_some, bnd, c1, wt, ec, wi];cases hu : cq t m M x[i] with
    | false =>
     rw [hu] at cnt;simp only [Bool.not_false, cond_true];exact .inr ⟨(us, l, (i : Int) + 1), rfl, ⟨by (try simp only []); omega, by (try simp only []); omega, by simp only [ti]; omega, by simp only [ti, cnt]; simp; omega, q4, q5⟩, by (try simp only []); omega⟩
    | true =>
     rw [hu] at cnt;have hu' := hu;simp only [cq, ch, Bool.and_eq_true, beq_iff_eq, decide_eq_true_eq] at hu';obtain ⟨⟨u1, u2, u3⟩, u4⟩ := hu';have hch : ch t m x[i] = true := by simp only [ch, u2, u3, Bool.and_self]
     obtain ⟨py, hpy⟩ := Option.isSome_iff_exists.1 (show (mget (OK m) x[i].From).isSome = true from u2);have hcg := ht.2.1 _ (c2 u3);have hu0 := q5 py;have nn : 0 ≤ gS (·.Free) py (chs l) := gS_nn py _ fun y hy => by
      obtain ⟨_, _, _, _, _, _, y5, _⟩ := q4 y hy;exact y5
     simp only [Bool.not_true, cond_false, idxS_is _ _ (by have := inside_len ht; omega : t.Inside.length ≤ 4611686018427387904), Option.bind_some, hpy, Option.getD_some];have fin : ∀ (us' : List (List UInt8 × Int)) (fr : Int), 0 ≤ fr → fr ≤ x[i].Talk → gS (·.Free) py (chs l) + fr ≤ t.Free → (∀ k, (mget us' k).getD 0 = (mget us k).getD 0 + if py = k then fr else 0) →
       ∃ q' : List (List UInt8 × Int) × List uT7 × Int, ((uF121 (cl t x[i].To).1 (IntKind.wrap .i64 (x[i].Talk - fr))).bind fun y309 => (app 160 l [(⟨⟨x[i].Id, py, (cl t x[i].To).1.Name, fr, y309⟩, x[i]⟩ : uT7)]).bind fun y327 => (some (.inl (us', y327, (i : Int) + 1)) : Option ((List (List UInt8 × Int) × List uT7 × Int) ⊕ List uT7))) = some (.inl q') ∧
       (0 ≤ q'.2.2 ∧ q'.2.2 ≤ x.length ∧ q'.2.1.length ≤ q'.2.2.toNat ∧ q'.2.1.length = (x.take q'.2.2.toNat).countP (cq t m M) ∧ (∀ y ∈ chs q'.2.1, YGood t m x M y) ∧ ∀ k, (mget q'.1 k).getD 0 = gS (·.Free) k (chs q'.2.1) ∧ gS (·.Free) k (chs q'.2.1) ≤ t.Free) ∧ (x.length - q'.2.2).toNat < (x.length - (i : Int)).toNat := by
      intro us' fr f0 f1 f2 f3;obtain ⟨v, v1, v2, v3⟩ := price_le _ hcg (x[i].Talk - fr) (by omega) (by omega);rw [w64 (n := x[i].Talk - fr) (by omega) (by omega), v1];simp only [Option.bind_some];rw [app_of (by simp; omega) (by simp; omega)];have ecs : chs (l ++ [(⟨⟨x[i].Id, py, (cl t x[i].To).1.Name, fr, v⟩, x[i]⟩ : uT7)]) = chs l ++ [⟨x[i].Id, py, (cl t x[i].To).1.Name, fr, v⟩] := by simp [chs]
      refine ⟨(us', l ++ [⟨⟨x[i].Id, py, (cl t x[i].To).1.Name, fr, v⟩, x[i]⟩], (i : Int) + 1), rfl, ⟨by (try simp only []); omega, by (try simp only []); omega, by simp only [ti, List.length_append, List.length_cons, List.length_nil]; omega, by simp only [ti, List.length_append, List.length_cons, List.length_nil, cnt]; simp; omega, ?_, ?_⟩, by (try simp only []); omega⟩
      ·simp only [ecs]
       intro y hy;rcases List.mem_append.1 hy with hy | hy
       ·exact q4 y hy
       ·simp at hy; subst hy
        exact ⟨i, x[i], hi, rfl, hch, hpy, f0, f1, v2, v3, u4⟩
      ·intro k
       simp only [ecs, gS_add, f3 k]
       have := q5 k
       by_cases e : py = k
       ·subst e; simp only [if_true]; omega
       ·simp only [e, if_false]; omega
     cases (t.Inside.any fun z => (cl t x[i].To).1.Name == z) with
     | false =>
      simp only [cond_false, Option.bind_some];exact .inr (fin us 0 (by omega) a8 (by omega) fun k => by split <;> omega)
     | true =>
      have hg : ∀ fr, gmin (IntKind.wrap .i64 (t.Free - (mget us py).getD 0)) x[i].Talk = fr → 0 ≤ fr ∧ fr ≤ x[i].Talk ∧ gS (·.Free) py (chs l) + fr ≤ t.Free := by
       intro fr e;rw [hu0.1, w64 (by omega) (by omega)] at e;unfold gmin at e;split at e <;> omega
      simp only [cond_true, Option.bind_some];generalize hfr : gmin (IntKind.wrap .i64 (t.Free - (mget us py).getD 0)) x[i].Talk = fr;obtain ⟨g1, g2, g3⟩ := hg fr hfr;refine .inr (fin _ fr g1 g2 g3 fun k => ?_);rw [mget_mput];by_cases e : py = k
      ·subst e
       simp only [if_true, Option.getD_some];rw [w64 (by omega) (by omega)]
      ·simp only [e, if_false]; omega
   ·have hd : decide ((i : Int) < (List.length x : Int)) = false := by simp; omega
    simp only [Int.toNat_natCast] at q3;rw [List.take_of_length_le (by omega)] at q3;exact .inl ⟨l, by simp only [hd, cond_false], q3, q4, fun k => (q5 k).2⟩) ([], [], 0) ⟨by simp, by simp, by simp, by simp, by simp [chs], fun k => ⟨rfl, by simp [chs, gS]; exact hF.1⟩⟩
 refine ⟨l, ?_, h2, by rw [h2]; exact Nat.le_trans List.countP_le_length hl, h3, h4⟩;simp only [uF58, owners_is hm, Option.bind_some, h1]
end
def caS : List uT6 → Int
  | [] => 0
  | v :: l => v.Calls + caS l
def ceS : List uT6 → Int
  | [] => 0
  | v :: l => v.Cents + ceS l
theorem caS_add (v : uT6) : ∀ l, caS (l ++ [v]) = caS l + v.Calls
 | [] => by simp [caS]
 | a :: l => by simp only [List.cons_append, caS, caS_add v l]; omega
theorem ceS_add (v : uT6) : ∀ l, ceS (l ++ [v]) = ceS l + v.Cents
 | [] => by simp [ceS]
 | a :: l => by simp only [List.cons_append, ceS, ceS_add v l]; omega
def one : uT4 → Int := fun _ => 1
theorem one_len : ∀ l, tS one l = (l.length : Int)
 | [] => rfl
 | y :: l => by simp only [tS, one_len l, one, List.length_cons]; omega

section
variable {t : uT3} {m : Nat} {x : List uT0}
theorem Charges_is (ht : TGood t) (hm : m ≤ 3) (hx : XGood x) {M : Int} (hM : 0 ≤ M) (hM8 : M < 8) {l : List uT7} (hl : uF58 t (PY.take m) x M = some l) (hl12 : l.length ≤ 12) : uF13a t (PY.take m) x M = some (chs l, 0) := by
 have := loop_for (N := l.length) (step := fun s : List uT4 × Int => uF13 l s.1 s.2) (fun k => (chs (l.take k), (k : Int))) (chs l) (fun k hk => by
  have hd : decide ((k : Int) < (List.length l : Int)) = true := by simpa using hk
  have ec : chs (l.take (k + 1)) = chs (l.take k) ++ [l[k].Charge] := by rw [List.take_succ_eq_append_getElem hk]; unfold chs; rw [List.map_append]; rfl
  simp only [uF13, hd, cond_true, idx_at hk, Option.bind_some];rw [app_of (by simp [chs]; omega) (by simp [chs]; omega), w64 (by omega) (by omega), ec]; rfl) (by simp [uF13])
 have this' : loopO (fun s : List uT4 × Int => uF13 l s.1 s.2) ([], 0) = some (chs l) := this;simp only [uF13a, month_is ht hm hx hM hM8, Option.bind_some, bne_self_eq_false, cond_false, hl, this']
theorem inv1_is (l : List uT7) (hl : l.length ≤ 12) (hc : ∀ y ∈ chs l, 0 ≤ y.Cost ∧ y.Cost ≤ 50000000000) (p : uT5) (M : Int) : ∃ tk, loopO (fun s : Int × Int × uT6 => uF14 l p s.1 s.2.1 s.2.2) (0, 0, ⟨p.Key, M, 0, 0, 0⟩) = some (gS (·.Cost) p.Key (chs l), ⟨p.Key, M, gS one p.Key (chs l), tk, 0⟩) := by
 have hb : ∀ k : Nat, 0 ≤ gS (·.Cost) p.Key (chs (l.take k)) ∧ gS (·.Cost) p.Key (chs (l.take k)) ≤ 50000000000 * 12 ∧ 0 ≤ gS one p.Key (chs (l.take k)) ∧ gS one p.Key (chs (l.take k)) ≤ 12 := by
  intro k;have hs : ∀ y ∈ chs (l.take k), 0 ≤ y.Cost ∧ y.Cost ≤ 50000000000 := fun y hy => by
   obtain ⟨z, hz, rfl⟩ := List.mem_map.1 hy;exact hc _ (List.mem_map.2 ⟨z, List.mem_of_mem_take hz, rfl⟩)
  have h1 := tS_bound (w := (·.Cost)) (B := 50000000000) _ hs;have h2 := gS_le_tS (w := (·.Cost)) p.Key _ fun y hy => (hs y hy).1;have h3 := gS_nn (w := (·.Cost)) p.Key _ fun y hy => (hs y hy).1;have h4 := gS_le_tS (w := one) p.Key (chs (l.take k)) fun y _ => by simp [one]
  have h5 := gS_nn (w := one) p.Key (chs (l.take k)) fun y _ => by simp [one]
  rw [one_len] at h4;have h6 : (chs (l.take k)).length ≤ 12 := by simp [chs]; omega
  exact ⟨h3, by omega, h5, by omega⟩
 obtain ⟨e, h1, tk, h2⟩ := loopO_ind (step := fun s : Int × Int × uT6 => uF14 l p s.1 s.2.1 s.2.2) (fun q => 0 ≤ q.2.1 ∧ q.2.1 ≤ l.length ∧ q.1 = gS (·.Cost) p.Key (chs (l.take q.2.1.toNat)) ∧ ∃ tk, q.2.2 = ⟨p.Key, M, gS one p.Key (chs (l.take q.2.1.toNat)), tk, 0⟩)
  (fun e => ∃ tk, e = (gS (·.Cost) p.Key (chs l), ⟨p.Key, M, gS one p.Key (chs l), tk, 0⟩)) (fun q => (l.length - q.2.1).toNat) (fun q hq => by
   obtain ⟨c, n, v⟩ := q;obtain ⟨q0, q1, q2, tk, q3⟩ := hq;simp only [] at q0 q1 q2 q3;obtain ⟨i, rfl⟩ := Int.eq_ofNat_of_zero_le q0;simp only [Int.toNat_natCast] at q2 q3;subst q2; subst q3;simp only [uF14];by_cases hlt : i < l.length
   ·have hd : decide ((i : Int) < (List.length l : Int)) = true := by simpa using hlt
    have ti : ((i : Int) + 1).toNat = i + 1 := by omega
    have wi : IntKind.wrap .i64 ((i : Int) + 1) = (i : Int) + 1 := w64 (by omega) (by omega);have ec : chs (l.take (i + 1)) = chs (l.take i) ++ [l[i].Charge] := by rw [List.take_succ_eq_append_getElem hlt]; unfold chs; rw [List.map_append]; rfl
    have b1 := hb i;have b2 := hb (i + 1);rw [ec, gS_add, gS_add] at b2;simp only [hd, cond_true, idx_at hlt, Option.bind_some, wi, bnd];by_cases e : l[i].Charge.Payer = p.Key
    ·have eb : (l[i].Charge.Payer == p.Key) = true := by simpa using e
     simp only [e, if_true, one] at b2;simp only [eb, cond_true];refine .inr ⟨_, rfl, ⟨by (try simp only []); omega, by (try simp only []); omega, ?_, ⟨IntKind.wrap .i64 (tk + l[i].r.Talk), ?_⟩⟩, by (try simp only []); omega⟩
     ·simp only [ti, ec, gS_add, e, if_true]
      exact w64 (by omega) (by omega)
     ·have b1' := b1.2.2
      simp only [ti, ec, gS_add, e, if_true];have o1 : one l[i].Charge = 1 := rfl;rw [o1, w64 (n := gS one p.Key (chs (List.take i l)) + 1) (by omega) (by omega)]
    ·have eb : (l[i].Charge.Payer == p.Key) = false := by simpa using e
     simp only [eb, cond_false];exact .inr ⟨_, rfl, ⟨by (try simp only []); omega, by (try simp only []); omega, by simp only [ti, ec, gS_add, e, if_false]; omega, ⟨tk, by simp only [ti, ec, gS_add, e, if_false, Int.add_zero]⟩⟩, by (try simp only []); omega⟩
   ·have hd : decide ((i : Int) < (List.length l : Int)) = false := by simp; omega
    have et : l.take i = l := List.take_of_length_le (by omega);simp only [et, hd, cond_false];exact .inl ⟨_, rfl, tk, rfl⟩) (0, 0, ⟨p.Key, M, 0, 0, 0⟩) ⟨by simp, by simp, by simp [chs, gS], 0, by simp [chs, gS]⟩
 exact ⟨tk, by rw [h1, h2]⟩
theorem Invoices_is (ht : TGood t) (h1m : 1 ≤ m) (hm : m ≤ 3) (hx : XGood x) {M : Int} (hM : 0 ≤ M) (hM8 : M < 8) {l : List uT7} (hl : uF58 t (PY.take m) x M = some l) (hl12 : l.length ≤ 12) (hy : ∀ y ∈ chs l, YGood t m x M y) :
  ∃ inv, uF14a t (PY.take m) x M = some (inv, 0) ∧ inv.length ≤ 3 ∧ caS inv = (l.length : Int) ∧ 1000 * ceS inv ≤ tS (·.Cost) (chs l) ∧ tS (·.Cost) (chs l) ≤ 1000 * ceS inv + 1000 * inv.length ∧ ∀ v ∈ inv, 0 ≤ v.Calls ∧ v.Calls ≤ 12 ∧ 0 ≤ v.Cents ∧ v.Cents ≤ 1000000000 := by
 have hc : ∀ y ∈ chs l, 0 ≤ y.Cost ∧ y.Cost ≤ 50000000000 := fun y h => by
  obtain ⟨_, _, _, _, _, _, _, _, c1, c2, _⟩ := hy y h;exact ⟨c1, c2⟩
 have hpl := py_len hm;have hks : ∀ y ∈ chs l, y.Payer ∈ (PY.take m).map (·.Key) := fun y h => by
  obtain ⟨_, _, _, _, _, p, _⟩ := hy y h;exact owner_key h1m hm p
 have t1 := tS_bound (w := (·.Cost)) (B := 50000000000) _ hc;have hcl : (chs l).length ≤ 12 := by simp [chs]; exact hl12
 obtain ⟨inv, e1, i1, i2, i3, i4, i5⟩ := loopO_ind (step := fun s : List uT6 × Int => uF14b (PY.take m) M l s.1 s.2)
  (fun q => 0 ≤ q.2 ∧ q.2 ≤ m ∧ (q.1.length : Int) ≤ q.2 ∧ caS q.1 = kS (fun k => gS one k (chs l)) (((PY.take m).map (·.Key)).take q.2.toNat) ∧ 1000 * ceS q.1 ≤ kS (fun k => gS (·.Cost) k (chs l)) (((PY.take m).map (·.Key)).take q.2.toNat) ∧ kS (fun k => gS (·.Cost) k (chs l)) (((PY.take m).map (·.Key)).take q.2.toNat) ≤ 1000 * ceS q.1 + 1000 * q.1.length ∧ ∀ v ∈ q.1, 0 ≤ v.Calls ∧ v.Calls ≤ 12 ∧ 0 ≤ v.Cents ∧ v.Cents ≤ 1000000000)
  (fun inv => inv.length ≤ 3 ∧ caS inv = kS (fun k => gS one k (chs l)) ((PY.take m).map (·.Key)) ∧ 1000 * ceS inv ≤ kS (fun k => gS (·.Cost) k (chs l)) ((PY.take m).map (·.Key)) ∧ kS (fun k => gS (·.Cost) k (chs l)) ((PY.take m).map (·.Key)) ≤ 1000 * ceS inv + 1000 * inv.length ∧ ∀ v ∈ inv, 0 ≤ v.Calls ∧ v.Calls ≤ 12 ∧ 0 ≤ v.Cents ∧ v.Cents ≤ 1000000000) (fun q => (m - q.2).toNat) (fun q hq => by
   obtain ⟨inv, n⟩ := q;obtain ⟨q0, q1, q2, q3, q4, q5, q6⟩ := hq;simp only [] at q0 q1 q2 q3 q4 q5 q6;obtain ⟨i, rfl⟩ := Int.eq_ofNat_of_zero_le q0;simp only [Int.toNat_natCast] at q3 q4 q5;simp only [uF14b];by_cases hlt : i < m
   ·have hd : decide ((i : Int) < (List.length (PY.take m) : Int)) = true := by rw [hpl]; simp; omega
    have ti : ((i : Int) + 1).toNat = i + 1 := by omega
    have wi : IntKind.wrap .i64 ((i : Int) + 1) = (i : Int) + 1 := w64 (by omega) (by omega);have hi := py_idx hm hlt;obtain ⟨tk, e2⟩ := inv1_is l hl12 hc (PK i) M;have kt : ((PY.take m).map (·.Key)).take (i + 1) = ((PY.take m).map (·.Key)).take i ++ [(PK i).Key] := by
     have hlen : i < ((PY.take m).map (·.Key)).length := by rw [List.length_map, hpl]; exact hlt
     rw [List.take_succ_eq_append_getElem hlen];have : (PY.take m)[i]'(by rw [hpl]; exact hlt) = PK i := by
      rw [idx_nat] at hi;exact (List.getElem?_eq_some_iff.1 hi).2
     rw [List.getElem_map, this]
    have g1 := gS_nn (w := (·.Cost)) (PK i).Key _ fun y h => (hc y h).1;have g2 := gS_le_tS (w := (·.Cost)) (PK i).Key _ fun y h => (hc y h).1;have g3 := gS_nn (w := one) (PK i).Key (chs l) fun y _ => by simp [one]
    have g4 := gS_le_tS (w := one) (PK i).Key (chs l) fun y _ => by simp [one]
    rw [one_len] at g4;simp only [hd, cond_true, hi, Option.bind_some, e2, wi];by_cases hp : gS one (PK i).Key (chs l) > 0
    ·have wc : IntKind.wrap .i64 (Int.tdiv (gS (·.Cost) (PK i).Key (chs l)) 1000) = gS (·.Cost) (PK i).Key (chs l) / 1000 := by
      rw [Int.tdiv_eq_ediv_of_nonneg g1]; exact w64 (by omega) (by omega)
     simp only [hp, decide_true, cond_true, wc];rw [app_of (by simp; omega) (by simp; omega)];refine .inr ⟨(inv ++ [⟨(PK i).Key, M, gS one (PK i).Key (chs l), tk, gS (·.Cost) (PK i).Key (chs l) / 1000⟩], (i : Int) + 1), rfl, ⟨by (try simp only []); omega, by (try simp only []); omega, by simp; omega, ?_, ?_, ?_, ?_⟩, by (try simp only []); omega⟩
     ·simp only [ti, kt, kS_add, caS_add, q3]
     ·simp only [ti, kt, kS_add, ceS_add]; omega
     ·simp only [ti, kt, kS_add, ceS_add, List.length_append, List.length_cons, List.length_nil]; omega
     ·intro v hv
      rcases List.mem_append.1 hv with hv | hv
      ·exact q6 v hv
      ·simp at hv; subst hv
       exact ⟨by (try simp only []); omega, by (try simp only []); omega, by (try simp only []); omega, by (try simp only []); omega⟩
    ·have z : gS (·.Cost) (PK i).Key (chs l) = 0 := by
      have key : ∀ c : List uT4, gS one (PK i).Key c ≤ 0 → gS (·.Cost) (PK i).Key c = 0 := by
       intro c;induction c with
       | nil => intro _; rfl
       | cons y c ih =>
        intro h;have nn := gS_nn (w := one) (PK i).Key c fun y _ => by simp [one]
        simp only [gS] at h ⊢;by_cases e : y.Payer = (PK i).Key
        ·simp only [e, if_true, one] at h nn; omega
        ·simp only [e, if_false] at h ⊢
         rw [ih (by omega)]; rfl
      exact key _ (by omega)
     have z1 : gS one (PK i).Key (chs l) = 0 := by omega
     simp only [hp, decide_false, cond_false];refine .inr ⟨(inv, (i : Int) + 1), rfl, ⟨by (try simp only []); omega, by (try simp only []); omega, by (try simp only []); omega, ?_, ?_, ?_, q6⟩, by (try simp only []); omega⟩
     ·simp only [ti, kt, kS_add, z1]; omega
     ·simp only [ti, kt, kS_add, z]; omega
     ·simp only [ti, kt, kS_add, z]; omega
   ·have hd : decide ((i : Int) < (List.length (PY.take m) : Int)) = false := by rw [hpl]; simp; omega
    rw [List.take_of_length_le (by rw [List.length_map, hpl]; omega)] at q3 q4 q5;exact .inl ⟨inv, by simp only [hd, cond_false], by omega, q3, q4, q5, q6⟩) ([], 0) ⟨by simp, by simp, by simp, by simp [caS, kS], by simp [ceS, kS], by simp [ceS, kS], by simp⟩
 have nd := py_nodup hm;rw [kS_all one nd _ hks, one_len] at i2;rw [kS_all _ nd _ hks] at i3 i4;refine ⟨inv, ?_, i1, by rw [i2]; simp [chs], i3, i4, i5⟩;simp only [uF14a, month_is ht hm hx hM hM8, Option.bind_some, bne_self_eq_false, cond_false, hl, e1]
end
theorem countP_plus {α : Type} (p q r : α → Bool) : ∀ (l : List α), (∀ a ∈ l, (p a = true → q a = true ∨ r a = true) ∧ (q a = true → p a = true) ∧ (r a = true → p a = true) ∧ ¬ (q a = true ∧ r a = true)) → l.countP p = l.countP q + l.countP r
 | [], _ => by simp
 | a :: l, h => by
  have ih := countP_plus p q r l fun b hb => h b (List.mem_cons_of_mem _ hb)
  obtain ⟨h1, h2, h3, h4⟩ := h a List.mem_cons_self
  simp only [List.countP_cons, ih]
  cases hp : p a <;> cases hq : q a <;> cases hr : r a <;> simp_all <;> omega
theorem first_is {x : List uT0} (hx : XGood x) {i : Nat} {r : uT0} (hi : x[i]? = some r) {y : uT4} (hy : y.Record = r.Id) : uF16 x (fun a => uF17 a y) = some (i : Int) := by
 have h : uF16 x (fun a => uF17 a y) = some (idxI (fun a => a.Id == y.Record) x) := idxF_loop x (fun a => uF17 a y) (fun a => a.Id == y.Record) (fun _ _ => rfl) (by have := hx.1; omega);rw [h];obtain ⟨hlt, hr⟩ := List.getElem?_eq_some_iff.1 hi;have hge : 0 ≤ idxI (fun a : uT0 => a.Id == y.Record) x := by
  by_cases hn : idxI (fun a : uT0 => a.Id == y.Record) x < 0
  ·have := idxI_neg hn r (List.mem_of_getElem? hi)
   rw [hy] at this; simp at this
  ·omega
 obtain ⟨j, hj, e, p, _⟩ := idxI_get hge;rw [e];have p' : x[j].Id = x[i].Id := by
  have : x[j].Id = y.Record := by simpa using p
  rw [this, hy, hr]
 have nd := hx.2.2.2;have : j = i := by
  have h1 : (x.map (·.Id))[j]'(by simpa using hj) = (x.map (·.Id))[i]'(by simpa using hlt) := by simpa using p'
  exact (List.getElem_inj nd).1 h1
 rw [this]
theorem notin_is {t : uT3} {m : Nat} {x : List uT0} {u : List Int} (hu : ∀ a ∈ u, ∃ (i : Nat) (r : uT0), a = (i : Int) ∧ x[i]? = some r ∧ ch t m r = false) (hl : u.length ≤ 12) {i : Nat} {r : uT0} (hi : x[i]? = some r) (hc : ch t m r = true) : uF18 u (i : Int) = some false := by
 have h : uF59 u (i : Int) = some (idxI ((i : Int) == ·) u) := idxE_loop u (i : Int) (by omega);simp only [uF18, h, Option.bind_some, bnd, idxI_any];congr 1;rw [List.any_eq_false];intro a ha hia;have : (i : Int) = a := by simpa using hia
 obtain ⟨j, q, e, e1, e2⟩ := hu a ha;have : i = j := by omega
 subst this;rw [hi] at e1;cases e1
 rw [hc] at e2; cases e2

section
variable {t : uT3} {m : Nat} {x : List uT0} {u : List Int} {s1 s2 : uT1}
theorem l1_is (ht : TGood t) (hx : XGood x) (hu : ∀ a ∈ u, ∃ (i : Nat) (r : uT0), a = (i : Int) ∧ x[i]? = some r ∧ ch t m r = false) (hul : u.length ≤ 12) {M : Int} {c : List uT4} (hc : ∀ y ∈ c, YGood t m x M y) (hF : ∀ k, gS (·.Free) k c ≤ t.Free) (hl : c.length ≤ 12) (f : Int) :
  loopO (fun s : List (List UInt8 × Int) × Int × Int => uF3b (s1, t) (s2, x) (u, 0) M (c, f) s.1 s.2.1 s.2.2) ([], 0, 0) = some (.inl (tS (·.Cost) c)) := by
 have hF2 : 0 ≤ t.Free ∧ t.Free ≤ 90000 := ⟨ht.2.2.2.1, ht.2.2.2.2.1⟩;have hfr : ∀ y ∈ c, 0 ≤ y.Free := fun y hy => by
  obtain ⟨_, _, _, _, _, _, h, _⟩ := hc y hy;exact h
 obtain ⟨e, h1, h2⟩ := loopO_ind (step := fun s : List (List UInt8 × Int) × Int × Int => uF3b (s1, t) (s2, x) (u, 0) M (c, f) s.1 s.2.1 s.2.2) (fun q => 0 ≤ q.2.2 ∧ q.2.2 ≤ c.length ∧ q.2.1 = tS (·.Cost) (c.take q.2.2.toNat) ∧ ∀ k, (mget q.1 k).getD 0 = gS (·.Free) k (c.take q.2.2.toNat))
  (fun e => e = .inl (tS (·.Cost) c)) (fun q => (c.length - q.2.2).toNat) (fun q hq => by
   obtain ⟨fm, co, n⟩ := q;obtain ⟨q0, q1, q2, q3⟩ := hq;simp only [] at q0 q1 q2 q3;obtain ⟨j, rfl⟩ := Int.eq_ofNat_of_zero_le q0;simp only [Int.toNat_natCast] at q2 q3;simp only [uF3b];by_cases hlt : j < c.length
   ·have hd : decide ((j : Int) < (List.length c : Int)) = true := by simpa using hlt
    have tj : ((j : Int) + 1).toNat = j + 1 := by omega
    obtain ⟨i, r, hi, y1, y2, y3, y4, y5, y6, y7, y8⟩ := hc _ (List.getElem_mem hlt);obtain ⟨_, _, _, a4, a5, a6, a7, a8, a9, _⟩ := hx.2.1 i _ hi;have i0 : decide ((i : Int) < 0) = false := by simp
    have d1 : decide (c[j].Free < 0) = false := by simp; omega
    have d2 : decide (c[j].Free > r.Talk) = false := by simp; omega
    have d3 : decide (c[j].Cost < 0) = false := by simp; omega
    have wt : IntKind.wrap .i64 (Int.tdiv r.At 2592000000) = Int.tdiv r.At 2592000000 := by
     have := Int.tdiv_eq_ediv_of_nonneg (a := r.At) (b := 2592000000) a4
     rw [this]; exact w64 (by omega) (by omega)
    have d4 : (Int.tdiv r.At 2592000000 != M) = false := by rw [y8]; simp
    have hix : idx x (i : Int) = some r := by rw [idx_nat]; exact hi
    have gt : gS (·.Free) c[j].Payer (c.take (j + 1)) = gS (·.Free) c[j].Payer (c.take j) + c[j].Free := by
     rw [List.take_succ_eq_append_getElem hlt, gS_add]; simp
    have g1 := gS_take (w := (·.Free)) c[j].Payer c hfr (j + 1);have g2 := hF c[j].Payer;have g3 := gS_nn (w := (·.Free)) c[j].Payer (c.take j) fun y hy => hfr y (List.mem_of_mem_take hy);have wf : IntKind.wrap .i64 ((mget fm c[j].Payer).getD 0 + c[j].Free) = gS (·.Free) c[j].Payer (c.take (j + 1)) := by
     rw [q3, gt]; exact w64 (by omega) (by omega)
    have d5 : decide (gS (·.Free) c[j].Payer (c.take (j + 1)) > t.Free) = false := by simp; omega
    have bc := tS_bound (w := (·.Cost)) (B := 50000000000) (c.take j) fun y hy => by
     obtain ⟨_, _, _, _, _, _, _, _, c1, c2, _⟩ := hc y (List.mem_of_mem_take hy);exact ⟨c1, c2⟩
    have bl : (c.take j).length ≤ 12 := by simp; omega
    have wc : IntKind.wrap .i64 (co + c[j].Cost) = tS (·.Cost) (c.take (j + 1)) := by
     rw [q2, List.take_succ_eq_append_getElem hlt, tS_add]; exact w64 (by omega) (by omega)
    simp only [hd, cond_true, idx_at hlt, Option.bind_some, first_is hx hi y1, i0, cond_false, notin_is hu hul hi y2, d1, Bool.or_self, hix, d2, d3, wt, d4, bnd, wf, mget_mput, if_true, Option.getD_some, d5, wc];rw [w64 (by omega) (by omega)];refine .inr ⟨_, rfl, ⟨by (try simp only []); omega, by (try simp only []); omega, by simp only [tj], fun k => ?_⟩, by (try simp only []); omega⟩;simp only [tj, mget_mput];by_cases e : c[j].Payer = k
    ·subst e; simp
    ·simp only [e, if_false]
     rw [q3, List.take_succ_eq_append_getElem hlt, gS_add]; simp [e]
   ·have hd : decide ((j : Int) < (List.length c : Int)) = false := by simp; omega
    have et : c.take j = c := List.take_of_length_le (by omega);simp only [hd, cond_false];exact .inl ⟨_, rfl, by rw [q2, et]⟩) ([], 0, 0) ⟨by simp, by simp, by simp [tS], fun k => by simp [gS, mget]⟩
 rw [h1, h2]
theorem l2_is (inv : List uT6) (hl : inv.length ≤ 3) (hv : ∀ v ∈ inv, 0 ≤ v.Calls ∧ v.Calls ≤ 12 ∧ 0 ≤ v.Cents ∧ v.Cents ≤ 1000000000) (f : Int) : loopO (fun s : Int × Int × Int => uF3 (inv, f) s.1 s.2.1 s.2.2) (0, 0, 0) = some (caS inv, ceS inv) := by
 have hb : ∀ l : List uT6, (∀ v ∈ l, 0 ≤ v.Calls ∧ v.Calls ≤ 12 ∧ 0 ≤ v.Cents ∧ v.Cents ≤ 1000000000) → 0 ≤ caS l ∧ caS l ≤ 12 * l.length ∧ 0 ≤ ceS l ∧ ceS l ≤ 1000000000 * l.length := by
  intro l;induction l with
  | nil => intro _; simp [caS, ceS]
  | cons v l ih =>
   intro h;have h1 := ih fun x hx => h x (List.mem_cons_of_mem _ hx);have h2 := h v List.mem_cons_self;simp only [caS, ceS, List.length_cons]; omega
 have := loop_for (N := inv.length) (step := fun s : Int × Int × Int => uF3 (inv, f) s.1 s.2.1 s.2.2) (fun k => (caS (inv.take k), ceS (inv.take k), (k : Int))) (caS inv, ceS inv) (fun k hk => by
  have hd : decide ((k : Int) < (List.length inv : Int)) = true := by simpa using hk
  have b := hb (inv.take k) fun v h => hv v (List.mem_of_mem_take h);have bl : (inv.take k).length ≤ 3 := by simp; omega
  have bv := hv _ (List.getElem_mem hk);simp only [uF3, hd, cond_true, idx_at hk, Option.bind_some, bnd];rw [List.take_succ_eq_append_getElem hk, caS_add, ceS_add, w64 (by omega) (by omega), w64 (by omega) (by omega), w64 (by omega) (by omega)]; rfl) (by simp [uF3])
 exact this
theorem errs_is : uF15 [0, 0] = some 0 := by
 have : loopO (fun s : Int => uF15a [0, 0] s) 0 = some (.inl ()) := loopO_of (n := 5) (by kernel_rfl);simp only [uF15, this, lret]
theorem talk_is (hl : x.length ≤ 12) : loopO (fun s : Int × Int => uF3a (s2, x) s.1 s.2) (0, 0) = some ((x.countP (fun r => r.How == 1) : Nat) : Int) := by
 have := loop_for (N := x.length) (step := fun s : Int × Int => uF3a (s2, x) s.1 s.2) (fun k => ((((x.take k).countP (fun r => r.How == 1) : Nat) : Int), (k : Int))) ((x.countP (fun r => r.How == 1) : Nat) : Int) (fun k hk => by
  have hd : decide ((k : Int) < (List.length x : Int)) = true := by simpa using hk
  have cnt : (x.take (k + 1)).countP (fun r => r.How == 1) = (x.take k).countP (fun r => r.How == 1) + if (x[k].How == 1) = true then 1 else 0 := by
   rw [List.take_succ_eq_append_getElem hk, List.countP_append, List.countP_singleton]
  have le := List.countP_le_length (p := fun r : uT0 => r.How == 1) (l := x.take k);have ll : (x.take k).length ≤ 12 := by simp; omega
  simp only [uF3a, hd, cond_true, idx_at hk, Option.bind_some, bnd, cnt];have wk : IntKind.wrap .i64 ((k : Int) + 1) = ((k + 1 : Nat) : Int) := by rw [w64 (by omega) (by omega)]; omega
  rw [wk];cases x[k].How == 1 with
  | true =>
   simp only [cond_true, if_true];rw [w64 (by omega) (by omega)];congr 3
  | false => simp) (by simp [uF3a])
 simpa using this
end
theorem law_EachSecondOnce (l : List Int) (hl : l.length ≤ 4611686018427387904) : uF3d l = some true := by
 have s0 : SOk ⟨l, 0⟩ 0 := ⟨hl, Int.le_refl _, Int.le_refl _⟩;obtain ⟨s1, t, e1, ht, k1⟩ := tariff_is ⟨l, 0⟩ 0 s0 (by omega);obtain ⟨m, m1, m3, e2⟩ := payers_is s1 _ k1 (by omega);obtain ⟨s3, x, e3, hx⟩ := right_is ⟨s1.L, s1.at_ + 1⟩ _ k1.one (by omega);obtain ⟨u, e4, u1, u2, u3⟩ := unpaid_is ht m3 hx;have hlx := hx.1;have hAt : ∀ r ∈ x, 0 ≤ r.At.tdiv 2592000000 ∧ r.At.tdiv 2592000000 < 8 ∧ (r.How == 1) = decide (r.Talk > 0) := fun r hr => by
  obtain ⟨i, hi⟩ := List.getElem?_of_mem hr;obtain ⟨_, _, _, a4, a5, _, _, _, _, _, _, a12, _⟩ := hx.2.1 i _ hi;obtain ⟨_, _, _, _, _, _, i7⟩ := hx.2.2.1 r hr;rw [Int.tdiv_eq_ediv_of_nonneg a4];exact ⟨by omega, by omega, a12⟩
 obtain ⟨e, f1, f2⟩ := loopO_ind (step := fun s : Int × Int => uF3c (s1, t) (⟨s1.L, s1.at_ + 1⟩, PY.take m) (s3, x) (u, 0) s.1 s.2) (fun q => 0 ≤ q.2 ∧ q.2 ≤ 8 ∧ q.1 = ((x.countP (fun r => decide (r.Talk > 0) && ch t m r && decide (r.At.tdiv 2592000000 < q.2)) : Nat) : Int))
  (fun e => e = .inl ((x.countP (fun r => decide (r.Talk > 0) && ch t m r) : Nat) : Int)) (fun q => (8 - q.2).toNat) (fun q hq => by
   obtain ⟨c, M⟩ := q;obtain ⟨q0, q1, q2⟩ := hq;simp only [] at q0 q1 q2;simp only [uF3c];by_cases hlt : M < 8
   ·obtain ⟨y, y1, y2, y3, y4, y5⟩ := charges_is (M := M) ht m3 hx q0 hlt
    have c1 := Charges_is ht m3 hx q0 hlt y1 y3;obtain ⟨inv, v1, v2, v3, v4, v5, v6⟩ := Invoices_is ht m1 m3 hx q0 hlt y1 y3 y4;have hcl : (chs y).length = y.length := by simp [chs]
    have bc := tS_bound (w := (·.Cost)) (B := 50000000000) (chs y) fun z hz => by
     obtain ⟨_, _, _, _, _, _, _, _, c1, c2, _⟩ := y4 z hz;exact ⟨c1, c2⟩
    have b1 : (caS inv != (List.length (chs y) : Int)) = false := by rw [v3, hcl]; simp
    have w1 : IntKind.wrap .i64 (ceS inv * 1000) = ceS inv * 1000 := w64 (by omega) (by omega);have w2 : IntKind.wrap .i64 (1000 * (List.length inv : Int)) = 1000 * (List.length inv : Int) := w64 (by omega) (by omega);have w3 : IntKind.wrap .i64 (ceS inv * 1000 + 1000 * (List.length inv : Int)) = ceS inv * 1000 + 1000 * (List.length inv : Int) := w64 (by omega) (by omega);have w4 : IntKind.wrap .i64 (ceS inv * 1000 + 1000 * (List.length inv : Int) + 1) = ceS inv * 1000 + 1000 * (List.length inv : Int) + 1 := w64 (by omega) (by omega);have b2 : decide (ceS inv * 1000 > tS (·.Cost) (chs y)) = false := by simp; omega
    have b3 : decide (tS (·.Cost) (chs y) ≥ ceS inv * 1000 + 1000 * (List.length inv : Int) + 1) = false := by simp; omega
    have le := List.countP_le_length (p := fun r : uT0 => decide (r.Talk > 0) && ch t m r && decide (r.At.tdiv 2592000000 < M)) (l := x);have cp : x.countP (fun r => decide (r.Talk > 0) && ch t m r && decide (r.At.tdiv 2592000000 < M + 1)) = x.countP (fun r => decide (r.Talk > 0) && ch t m r && decide (r.At.tdiv 2592000000 < M)) + x.countP (cq t m M) := by
     refine countP_plus _ _ _ x fun a _ => ?_;simp only [cq];cases (decide (a.Talk > 0) && ch t m a)
     ·simp
     ·simp; omega
    simp only [hlt, decide_true, cond_true, c1, Option.bind_some, v1, errs_is, bne_self_eq_false, cond_false, l1_is ht hx u3 u2 y4 y5 (by omega), lret, l2_is inv v2 v6, b1, w1, w2, w3, w4, b2, b3, Bool.or_self, bnd];rw [w64 (by omega) (by omega), w64 (by omega) (by omega)];refine .inr ⟨_, rfl, ⟨by (try simp only []); omega, by (try simp only []); omega, ?_⟩, by (try simp only []); omega⟩;simp only [cp, hcl, y2];omega
   ·obtain rfl : M = 8 := by omega
    refine .inl ⟨.inl c, by simp, ?_⟩;rw [q2];congr 2;refine List.countP_congr fun r hr => ?_
    have := (hAt r hr).2.1
    simp [this]) (0, 0) ⟨by simp, by simp, by
     have : x.countP (fun r => decide (r.Talk > 0) && ch t m r && decide (r.At.tdiv 2592000000 < 0)) = 0 := by
      rw [List.countP_eq_zero];intro r hr
      have := (hAt r hr).1
      simp; intro _ _; omega
     simp only [this]; rfl⟩
 subst f2;have tot : x.countP (fun r => r.How == 1) = x.countP (fun r => decide (r.Talk > 0) && ch t m r) + x.countP (up t m) := by
  refine countP_plus _ _ _ x fun a ha => ?_;rw [(hAt a ha).2.2];simp only [up];cases decide (a.Talk > 0) <;> cases ch t m a <;> simp
 have le := List.countP_le_length (p := fun r : uT0 => r.How == 1) (l := x);have fin : (IntKind.wrap .i64 (((x.countP (fun r => decide (r.Talk > 0) && ch t m r) : Nat) : Int) + (List.length u : Int)) == ((x.countP (fun r => r.How == 1) : Nat) : Int)) = true := by
  rw [w64 (by omega) (by omega), beq_iff_eq]; omega
 simp only [uF3d, e1, Option.bind_some, e2, e3, e4, bne_self_eq_false, cond_false, f1, lret, talk_is hlx, fin, cond_true];simp [uF19]
end Go.Proofs.YtagbgmkocjfanaaGreatDoor
