/-
  EachSecondOnce: what is drawn: records.
-/
import Derived.Test.YtagbgmkocjfanaaGreatDoorHM4Aa
import Derived.Test.YtagbgmkocjfanaaGreatDoorHM4Absc
import Derived.KernelRfl
namespace Go.Proofs.YtagbgmkocjfanaaGreatDoor
open Go Go.Abs
set_option maxRecDepth 100000
set_option maxHeartbeats 1000000
theorem below_is (x n : Int) (h1 : 1 ≤ n) (h2 : n ≤ 4611686018427387904) : uF104 x n = some (x % n) := by
 have hn : ¬ n < 1 := by omega
 have hn0 : n ≠ 0 := by omega
 have hlt : x.tmod n < n := Int.tmod_lt_of_pos _ (by omega);have hgt : -n < x.tmod n := by
  have := Int.tmod_lt_of_pos (-x) (b := n) (by omega)
  rw [Int.neg_tmod] at this; omega
 rw [emod_tmod x n h1];by_cases h : x.tmod n < 0
 ·simp (disch := omega) [uF104, hn, grem, hn0, h, bnd, w64]
 ·simp [uF104, hn, grem, hn0, h, bnd]
def SOk (s : uT0) (k : Int) : Prop := s.L.length ≤ 4611686018427387904 ∧ 0 ≤ s.at_ ∧ s.at_ ≤ k
theorem next_is (s : uT0) (n k : Int) (hs : SOk s k) (hk : k ≤ 4611686018427387904) (h1 : 1 ≤ n) (h2 : n ≤ 4611686018427387904) :
  ∃ r, uF50 s n = some (⟨s.L, s.at_ + 1⟩, r) ∧ 0 ≤ r ∧ r < n := by
 obtain ⟨hl, ha, hb⟩ := hs;have e1 : IntKind.wrap .i64 (s.at_ + 1) = s.at_ + 1 := w64 (by omega) (by omega);have hm : ∀ x : Int, 0 ≤ x % n ∧ x % n < n := fun x => ⟨Int.emod_nonneg _ (by omega), Int.emod_lt_of_pos _ (by omega)⟩;unfold uF50;rw [e1];by_cases h0 : s.L.length = 0
 ·have hz : (s.L.length : Int) = 0 := by omega
  simp [hz, below_is _ _ h1 h2];exact hm _
 ·have hz : ¬ ((s.L.length : Int) = 0) := by omega
  have e2 : IntKind.wrap .i64 (s.at_ + 1 - 1) = s.at_ := by rw [w64] <;> omega
  have hi : 0 ≤ s.at_.tmod s.L.length ∧ s.at_.tmod s.L.length < s.L.length := ⟨Int.tmod_nonneg _ ha, Int.tmod_lt_of_pos _ (by omega)⟩;obtain ⟨x, hx, _⟩ := idx_of hi.1 hi.2;rw [e2];have hne : s.L ≠ [] := by rintro q; simp [q] at h0
  have hb : ((s.L.length : Int) == 0) = false := by simp [hne]
  simp [hb, hne, grem, gquo, hx, below_is _ _ h1 h2, below_is _ 1073741824 (by omega) (by omega)];exact hm _
theorem range_is (s : uT0) (lo hi k : Int) (hs : SOk s k) (hk : k ≤ 4611686018427387904) (h1 : lo ≤ hi) (h2 : -1000000000000 ≤ lo) (h3 : hi ≤ 1000000000000) :
  ∃ r, uF73 s lo hi = some (⟨s.L, s.at_ + 1⟩, r) ∧ lo ≤ r ∧ r ≤ hi := by
 obtain ⟨r, e, r1, r2⟩ := next_is s (hi - lo + 1) k hs hk (by omega) (by omega);have hlt : ¬ hi < lo := by omega
 refine ⟨lo + r, ?_, by omega, by omega⟩;simp (disch := omega) [uF73, hlt, w64, e, bnd]

theorem SOk.up {s : uT0} {k m : Int} (h : SOk s k) (e : k ≤ m) : SOk s m := ⟨h.1, h.2.1, Int.le_trans h.2.2 e⟩
theorem SOk.one {s : uT0} {k : Int} (h : SOk s k) : SOk ⟨s.L, s.at_ + 1⟩ (k + 1) := by
 obtain ⟨a, b, c⟩ := h;exact ⟨a, by (try simp only []); omega, by (try simp only []); omega⟩
theorem some_in (s : uT0) (l : List (List UInt8)) (k : Int) (hs : SOk s k) (hk : k ≤ 1000000) (hl : 0 < l.length) (hl2 : l.length ≤ 1000) : ∃ r, uF45 s l = some (⟨s.L, s.at_ + 1⟩, r) ∧ r ∈ l := by
 obtain ⟨r, e, r1, r2⟩ := next_is s l.length k hs (by omega) (by omega) (by omega);obtain ⟨x, hx, hm⟩ := idx_of r1 r2;exact ⟨x, by simp [uF45, e, hx, bnd], hm⟩

theorem pick_in (s : uT0) (l : List Int) (k : Int) (hs : SOk s k) (hk : k ≤ 1000000) (hl : 0 < l.length) (hl2 : l.length ≤ 1000) : ∃ r, uF27 s l = some (⟨s.L, s.at_ + 1⟩, r) ∧ r ∈ l := by
 obtain ⟨r, e, r1, r2⟩ := next_is s l.length k hs (by omega) (by omega) (by omega);obtain ⟨x, hx, hm⟩ := idx_of r1 r2;exact ⟨x, by simp [uF27, e, hx], hm⟩
theorem flip_is (s : uT0) (n k : Int) (hs : SOk s k) (hk : k ≤ 1000000) (h1 : 1 ≤ n) (h2 : n ≤ 1000) : ∃ b, uF51 s n = some (⟨s.L, s.at_ + 1⟩, b) := by
 obtain ⟨r, e, r1, r2⟩ := next_is s n k hs (by omega) (by omega) (by omega);exact ⟨r == 0, by simp [uF51, e, bnd]⟩

theorem odd_is (s : uT0) (lo hi k : Int) (hs : SOk s k) (hk : k ≤ 100000) (h1 : -1000 ≤ lo) (h2 : lo ≤ hi) (h3 : hi ≤ 1000) :
  ∃ s' r, uF106 s lo hi = some (s', r) ∧ SOk s' (k + 2) ∧ (r = -1099511627776 ∨ r = 1099511627776 ∨ lo - 1 ≤ r ∧ r ≤ hi + 1) := by
 obtain ⟨b, e1⟩ := flip_is s 12 k hs (by omega) (by omega) (by omega);simp only [uF106, e1, Option.bind_some];cases b with
 | true =>
  obtain ⟨r, e2, r1⟩ := pick_in ⟨s.L, s.at_ + 1⟩ [IntKind.wrap .i64 (lo - 1), IntKind.wrap .i64 (hi + 1), lo, hi, -1099511627776, 1099511627776] _ hs.one (by omega) (by simp) (by simp);rw [w64 (by omega) (by omega), w64 (by omega) (by omega)] at e2 r1;simp only [cond_true];rw [w64 (by omega) (by omega), w64 (by omega) (by omega), e2];refine ⟨_, r, rfl, hs.one.one.up (by (try simp only []); omega), ?_⟩;simp at r1; omega
 | false =>
  obtain ⟨r, e2, r1, r2⟩ := range_is ⟨s.L, s.at_ + 1⟩ lo hi _ hs.one (by omega) h2 (by omega) (by omega);simp only [cond_false, e2];exact ⟨_, r, rfl, hs.one.one.up (by (try simp only []); omega), .inr (.inr (by omega))⟩
def PH : List (List UInt8) := [[], [43, 49, 50, 51], [43, 48, 49, 50, 51], [49, 50, 51, 52], [43, 49, 50, 51, 52, 53, 54, 55, 56, 57, 48, 49, 50, 51, 52, 53, 54], [43, 49, 50, 97, 52], [43, 49, 50, 48, 48], [43, 49, 50, 48, 49], [43, 49, 50, 48, 50], [43, 57, 57, 57, 57], [43, 52, 51, 49, 50], [43, 52, 57, 51, 48, 49], [43, 52, 57, 51, 48, 50], [43, 53, 53, 49, 50]]
def IDS : List (List UInt8) := (List.range 26).map (fun i => [114, (97 + i).toUInt8]) ++ [[], [65]]
def CARS : List (List UInt8) := [[], [119, 101, 115, 116], [65]]
theorem phone_is (s : uT0) (k : Int) (hs : SOk s k) (hk : k ≤ 100000) : ∃ s' r, uF105 s = some (s', r) ∧ SOk s' (k + 2) ∧ r ∈ PH := by
 obtain ⟨b, e1⟩ := flip_is s 25 k hs (by omega) (by omega) (by omega);simp only [uF105, bnd, e1, Option.bind_some];cases b with
 | true =>
  obtain ⟨r, e2, r1⟩ := some_in ⟨s.L, s.at_ + 1⟩ [[], [43, 49, 50, 51], [43, 48, 49, 50, 51], [49, 50, 51, 52], [43, 49, 50, 51, 52, 53, 54, 55, 56, 57, 48, 49, 50, 51, 52, 53, 54], [43, 49, 50, 97, 52]] _ hs.one (by omega) (by simp) (by simp);simp only [cond_true, e2];refine ⟨_, r, rfl, hs.one.one.up (by (try simp only []); omega), ?_⟩;simp only [List.mem_cons, List.not_mem_nil, or_false] at r1;rcases r1 with rfl | rfl | rfl | rfl | rfl | rfl <;> decide
 | false =>
  obtain ⟨r, e2, r1⟩ := some_in ⟨s.L, s.at_ + 1⟩ [[43, 49, 50, 48, 48], [43, 49, 50, 48, 48], [43, 49, 50, 48, 49], [43, 49, 50, 48, 50], [43, 57, 57, 57, 57], [43, 52, 51, 49, 50], [43, 52, 57, 51, 48, 49], [43, 52, 57, 51, 48, 50], [43, 53, 53, 49, 50]] _ hs.one (by omega) (by simp) (by simp);simp only [cond_false, e2];refine ⟨_, r, rfl, hs.one.one.up (by (try simp only []); omega), ?_⟩;simp only [List.mem_cons, List.not_mem_nil, or_false] at r1;rcases r1 with rfl | rfl | rfl | rfl | rfl | rfl | rfl | rfl | rfl <;> decide
theorem id_all : (List.range 26).all (fun i => (sadd [114] (runeStr (IntKind.wrap .i32 (IntKind.wrap .i64 (97 + (i : Int))))) == some [114, (97 + i).toUInt8])) = true := by kernel_rfl
theorem id_is (i : Nat) (h : i < 26) : sadd [114] (runeStr (IntKind.wrap .i32 (IntKind.wrap .i64 (97 + (i : Int))))) = some [114, (97 + i).toUInt8] := by
 simpa using List.all_eq_true.1 id_all i (List.mem_range.2 h)
def RInv (r : uT1) : Prop := r.Id ∈ IDS ∧ r.From ∈ PH ∧ r.To ∈ PH ∧ r.Carrier ∈ CARS ∧ -2000000000000 ≤ r.At ∧ r.At ≤ 2000000000000 ∧ (r.At ≤ 15552000000 ∨ 1000000000000 ≤ r.At)
noncomputable def recTail2 (w12 : List uT1) (u47 w14 : Int) (y232 : uT1) (y233 : uT0) : Option ((List uT1 × Int × Int × uT0) ⊕ (List uT1 × uT0)) := (uF51 y233 ((80 : Int))).bind fun y458 => (bif y458.2 then (some true) else ((uF107 w12 (fun a0 => uF108 a0 y232)).bind fun y486 => some (!y486))).bind fun y489 => bif y489 then ((app 96 w12 (([y232] : List uT1))).bind fun y508 => some (.inl ((y508, u47, (IntKind.wrap .i64 (w14 + ((1 : Int)))), y458.1)))) else (some (.inl ((w12, u47, (IntKind.wrap .i64 (w14 + ((1 : Int)))), y458.1))))
noncomputable def recTail (w12 : List uT1) (u47 w14 : Int) (y159 : uT1) (y160 : uT0) : Option ((List uT1 × Int × Int × uT0) ⊕ (List uT1 × uT0)) := (uF51 y160 ((80 : Int))).bind fun y206 => (bif y206.2 then ((uF50 y206.1 ((4 : Int))).bind fun y235 => bnd ((y235.2 == ((0 : Int)))) fun u250 => bif u250 then ((uF45 y235.1 (([([] : List UInt8), ([65] : List UInt8), ([114, 97] : List UInt8)] : List (List UInt8)))).bind fun y254 => some (((⟨y254.2, y159.From, y159.To, y159.At, y159.Ring, y159.Talk, y159.How, y159.Carrier⟩ : uT1), y254.1))) else (bnd ((y235.2 == ((1 : Int)))) fun u276 => bif u276 then ((uF105 y235.1).bind fun y279 => (uF105 y279.1).bind fun y294 => some (((⟨y159.Id, y279.2, y294.2, y159.At, y159.Ring, y159.Talk, y159.How, y159.Carrier⟩ : uT1), y294.1))) else (bnd ((y235.2 == ((2 : Int)))) fun u323 => bif u323 then ((uF106 y235.1 ((0 : Int)) ((100 : Int))).bind fun y326 => (uF106 y326.1 ((1 : Int)) ((4 : Int))).bind fun y341 => some (((⟨y159.Id, y159.From, y159.To, y159.At, y159.Ring, y326.2, y341.2, y159.Carrier⟩ : uT1), y341.1))) else ((uF106 y235.1 ((0 : Int)) ((100 : Int))).bind fun y370 => (uF106 y370.1 ((0 : Int)) ((100 : Int))).bind fun y385 => (uF45 y385.1 (([([] : List UInt8), ([65] : List UInt8)] : List (List UInt8)))).bind fun y401 => some (((⟨y159.Id, y159.From, y159.To, y370.2, y385.2, y159.Talk, y159.How, y401.2⟩ : uT1), y401.1)))))) else (some ((y159, y206.1)))).bind fun (y232, y233) => (uF51 y233 ((80 : Int))).bind fun y458 => (bif y458.2 then (some true) else ((uF107 w12 (fun a0 => uF108 a0 y232)).bind fun y486 => some (!y486))).bind fun y489 => bif y489 then ((app 96 w12 (([y232] : List uT1))).bind fun y508 => some (.inl ((y508, u47, (IntKind.wrap .i64 (w14 + ((1 : Int)))), y458.1)))) else (some (.inl ((w12, u47, (IntKind.wrap .i64 (w14 + ((1 : Int)))), y458.1))))
theorem cont_is (l : List uT1) (r : uT1) (hl : l.length ≤ 1000) : uF107 l (fun a => uF108 a r) = some (decide (idxI (fun a => a.Id == r.Id) l ≥ 0)) := by
 have := idxF_loop l (fun a => uF108 a r) (fun a => a.Id == r.Id) (fun _ _ => rfl) (by omega)
 have h : uF16 l (fun a => uF108 a r) = some (idxI (fun a => a.Id == r.Id) l) := this;simp only [uF107, h, Option.bind_some, bnd]
theorem tail2_is (l : List uT1) (u w : Int) (r : uT1) (s : uT0) (k : Int) (hs : SOk s k) (hk : k ≤ 100000) (hr : RInv r) (hl : l.length ≤ 1000) (hw : 0 ≤ w ∧ w ≤ 1000) :
  ∃ l' s', recTail2 l u w r s = some (.inl (l', u, w + 1, s')) ∧ (l' = l ∨ l' = l ++ [r]) ∧ SOk s' (k + 1) := by
 obtain ⟨b, e1⟩ := flip_is s 80 k hs (by omega) (by omega) (by omega);have key : ∀ b : Bool, ∃ l' s', (bif b then ((app 96 l [r]).bind fun y508 => some (.inl ((y508, u, (IntKind.wrap .i64 (w + 1)), (⟨s.L, s.at_ + 1⟩ : uT0))))) else (some (.inl ((l, u, (IntKind.wrap .i64 (w + 1)), (⟨s.L, s.at_ + 1⟩ : uT0))))) : Option ((List uT1 × Int × Int × uT0) ⊕ (List uT1 × uT0))) = some (.inl (l', u, w + 1, s')) ∧ (l' = l ∨ l' = l ++ [r]) ∧ SOk s' (k + 1) := by
  intro b;rw [w64 (by omega) (by omega)];cases b with
  | true => rw [app_of (by simp; omega) (by simp; omega)]; exact ⟨_, _, rfl, .inr rfl, hs.one⟩
  | false => exact ⟨_, _, rfl, .inl rfl, hs.one⟩
 simp only [recTail2, e1, Option.bind_some, cont_is l r hl];cases b with
 | true => simp only [cond_true, Option.bind_some]; exact key true
 | false => simp only [cond_false, Option.bind_some]; exact key _
theorem tail_is (l : List uT1) (u w : Int) (r : uT1) (s : uT0) (k : Int) (hs : SOk s k) (hk : k ≤ 10000) (hr : RInv r) (hl : l.length ≤ 1000) (hw : 0 ≤ w ∧ w ≤ 1000) :
  ∃ l' s' r', recTail l u w r s = some (.inl (l', u, w + 1, s')) ∧ (l' = l ∨ l' = l ++ [r']) ∧ RInv r' ∧ SOk s' (k + 10) := by
 obtain ⟨b, e1⟩ := flip_is s 80 k hs (by omega) (by omega) (by omega);have fin : ∀ r' s1, RInv r' → SOk s1 (k + 9) → ∃ l' s' r'', recTail2 l u w r' s1 = some (.inl (l', u, w + 1, s')) ∧ (l' = l ∨ l' = l ++ [r'']) ∧ RInv r'' ∧ SOk s' (k + 10) := by
  intro r' s1 h1 h2;obtain ⟨l', s', a1, a2, a3⟩ := tail2_is l u w r' s1 _ h2 (by omega) h1 hl hw;exact ⟨l', s', r', a1, a2, h1, a3.up (by omega)⟩
 have hh := hr;obtain ⟨i1, i2, i3, i4, i5, i6, i7⟩ := hh;simp only [recTail, e1, Option.bind_some];cases b with
 | false => simp only [cond_false, Option.bind_some]; exact fin r _ hr (hs.one.up (by omega))
 | true =>
  obtain ⟨n, e2, n1, n2⟩ := next_is ⟨s.L, s.at_ + 1⟩ 4 _ hs.one (by omega) (by omega) (by omega);have h2 := hs.one.one;simp only [cond_true, e2, Option.bind_some, bnd];by_cases c0 : n = 0
  ·subst c0
   obtain ⟨x, e3, x1⟩ := some_in ⟨s.L, s.at_ + 1 + 1⟩ [[], [65], [114, 97]] _ h2 (by omega) (by simp) (by simp);simp only [beq_self_eq_true, cond_true, e3, Option.bind_some];refine fin ⟨x, r.From, r.To, r.At, r.Ring, r.Talk, r.How, r.Carrier⟩ _ ⟨?_, i2, i3, i4, i5, i6, i7⟩ (h2.one.up (by omega));simp only [List.mem_cons, List.not_mem_nil, or_false] at x1;show x ∈ IDS;rcases x1 with rfl | rfl | rfl <;> decide
  ·have b0 : (n == 0) = false := by simpa using c0
   simp only [b0, cond_false];by_cases c1 : n = 1
   ·subst c1
    obtain ⟨s3, x, e3, h3, x1⟩ := phone_is ⟨s.L, s.at_ + 1 + 1⟩ _ h2 (by omega);obtain ⟨s4, y, e4, h4, y1⟩ := phone_is s3 _ h3 (by omega);simp only [beq_self_eq_true, cond_true, e3, e4, Option.bind_some];exact fin ⟨r.Id, x, y, r.At, r.Ring, r.Talk, r.How, r.Carrier⟩ _ ⟨i1, x1, y1, i4, i5, i6, i7⟩ (h4.up (by omega))
   ·have b1 : (n == 1) = false := by simpa using c1
    simp only [b1, cond_false];by_cases c2 : n = 2
    ·subst c2
     obtain ⟨s3, x, e3, h3, x1⟩ := odd_is ⟨s.L, s.at_ + 1 + 1⟩ 0 100 _ h2 (by omega) (by omega) (by omega) (by omega);obtain ⟨s4, y, e4, h4, y1⟩ := odd_is s3 1 4 _ h3 (by omega) (by omega) (by omega) (by omega);simp only [beq_self_eq_true, cond_true, e3, e4, Option.bind_some];exact fin ⟨r.Id, r.From, r.To, r.At, r.Ring, x, y, r.Carrier⟩ _ ⟨i1, i2, i3, i4, i5, i6, i7⟩ (h4.up (by omega))
    ·have b2 : (n == 2) = false := by simpa using c2
     simp only [b2, cond_false];obtain ⟨s3, x, e3, h3, x1⟩ := odd_is ⟨s.L, s.at_ + 1 + 1⟩ 0 100 _ h2 (by omega) (by omega) (by omega) (by omega);obtain ⟨s4, y, e4, h4, y1⟩ := odd_is s3 0 100 _ h3 (by omega) (by omega) (by omega) (by omega);obtain ⟨z, e5, z1⟩ := some_in s4 [[], [65]] _ h4 (by omega) (by simp) (by simp);simp only [e3, e4, e5, Option.bind_some];refine fin ⟨r.Id, r.From, r.To, x, y, r.Talk, r.How, z⟩ _ ⟨i1, i2, i3, ?_, by (try simp only []); omega, by (try simp only []); omega, by (try simp only []); omega⟩ (h4.one.up (by omega));simp only [List.mem_cons, List.not_mem_nil, or_false] at z1;show z ∈ CARS;rcases z1 with rfl | rfl <;> decide
theorem rec_is (l : List uT1) (at_ w : Int) (s : uT0) (k : Int) (hs : SOk s k) (hk : k ≤ 9000) (hl : l.length ≤ 100) (hw : 0 ≤ w ∧ w < 12) (ha : 0 ≤ at_ ∧ at_ ≤ 1296000000 * w) :
  ∃ l' a' s' r', uF52 12 l at_ w s = some (.inl (l', a', w + 1, s')) ∧ (l' = l ∨ l' = l ++ [r']) ∧ RInv r' ∧ SOk s' (k + 20) ∧ 0 ≤ a' ∧ a' ≤ 1296000000 * (w + 1) := by
 obtain ⟨p, e1, p1⟩ := pick_in s [0, 10, 100, 1000, 60000, 1296000000] _ hs (by omega) (by simp) (by simp);have p2 : 0 ≤ p ∧ p ≤ 1296000000 := by simp at p1; omega
 have h1 := hs.one;obtain ⟨n, e2, n1, n2⟩ := next_is ⟨s.L, s.at_ + 1⟩ 3 _ h1 (by omega) (by omega) (by omega);have h2 := h1.one;obtain ⟨f, e3, f1⟩ := some_in ⟨s.L, s.at_ + 1 + 1⟩ [[43, 49, 50, 48, 48], [43, 49, 50, 48, 48], [43, 49, 50, 48, 49], [43, 49, 50, 48, 50], [43, 57, 57, 57, 57]] _ h2 (by omega) (by simp) (by simp);have h3 := h2.one;obtain ⟨t, e4, t1⟩ := some_in ⟨s.L, s.at_ + 1 + 1 + 1⟩ [[43, 52, 51, 49, 50], [43, 52, 57, 51, 48, 49], [43, 52, 57, 51, 48, 50], [43, 53, 53, 49, 50], [43, 49, 50, 48, 48]] _ h3 (by omega) (by simp) (by simp);have h4 := h3.one;obtain ⟨g, e5, g1⟩ := pick_in ⟨s.L, s.at_ + 1 + 1 + 1 + 1⟩ [0, 5000] _ h4 (by omega) (by simp) (by simp);have h5 := h4.one;obtain ⟨o, e6, o1⟩ := pick_in ⟨s.L, s.at_ + 1 + 1 + 1 + 1 + 1⟩ [1, 1, 1, 2, 3, 4] _ h5 (by omega) (by simp) (by simp);have h6 := h5.one;obtain ⟨c, e7, c1⟩ := some_in ⟨s.L, s.at_ + 1 + 1 + 1 + 1 + 1 + 1⟩ [[], [119, 101, 115, 116]] _ h6 (by omega) (by simp) (by simp);have h7 := h6.one;have hd : (decide (w < 12)) = true := by simpa using hw.2
 have hx : 0 ≤ Int.tmod (IntKind.wrap .i64 (IntKind.wrap .i64 (w * 7) + n)) 26 ∧ Int.tmod (IntKind.wrap .i64 (IntKind.wrap .i64 (w * 7) + n)) 26 < 26 := by
  rw [w64 (n := w * 7) (by omega) (by omega), w64 (by omega) (by omega)];exact ⟨Int.tmod_nonneg _ (by omega), Int.tmod_lt_of_pos _ (by omega)⟩
 obtain ⟨j, hj⟩ := Int.eq_ofNat_of_zero_le hx.1;rw [hj] at hx;have hid := id_is j (by omega);have hat : IntKind.wrap .i64 (at_ + p) = at_ + p := w64 (by omega) (by omega);have inv : ∀ tk, RInv ⟨[114, (97 + j).toUInt8], f, t, at_ + p, g, tk, o, c⟩ := by
  intro tk;refine ⟨?_, ?_, ?_, ?_, by (try simp only []); omega, by (try simp only []); omega, .inl (by (try simp only []); omega)⟩
  ·exact List.mem_append_left _ (List.mem_map.2 ⟨j, List.mem_range.2 (by omega), rfl⟩)
  ·simp only [List.mem_cons, List.not_mem_nil, or_false] at f1
   show f ∈ PH;rcases f1 with rfl | rfl | rfl | rfl | rfl <;> decide
  ·simp only [List.mem_cons, List.not_mem_nil, or_false] at t1
   show t ∈ PH;rcases t1 with rfl | rfl | rfl | rfl | rfl <;> decide
  ·simp only [List.mem_cons, List.not_mem_nil, or_false] at c1
   show c ∈ CARS;rcases c1 with rfl | rfl <;> decide
 have fin : ∀ tk s1, SOk s1 (k + 9) → ∃ l' a' s' r', recTail l (at_ + p) w ⟨[114, (97 + j).toUInt8], f, t, at_ + p, g, tk, o, c⟩ s1 = some (.inl (l', a', w + 1, s')) ∧ (l' = l ∨ l' = l ++ [r']) ∧ RInv r' ∧ SOk s' (k + 20) ∧ 0 ≤ a' ∧ a' ≤ 1296000000 * (w + 1) := by
  intro tk s1 q;obtain ⟨l', s', r', a1, a2, a3, a4⟩ := tail_is l (at_ + p) w _ s1 _ q (by omega) (inv tk) (by omega) (by omega);exact ⟨l', _, s', r', a1, a2, a3, a4.up (by omega), by omega, by omega⟩
 simp only [uF52, hd, cond_true, e1, Option.bind_some, bnd, hat, e2, hj, hid, e3, e4, e5, e6, e7];by_cases co : o = 1
 ·subst co
  obtain ⟨tk, e8, _⟩ := pick_in ⟨s.L, s.at_ + 1 + 1 + 1 + 1 + 1 + 1 + 1⟩ [1, 5000, 60000, 60001, 61500, 90000] _ h7 (by omega) (by simp) (by simp);simp only [beq_self_eq_true, cond_true, e8, Option.bind_some];exact fin tk _ (h7.one.up (by omega))
 ·have bo : (o == 1) = false := by simpa using co
  simp only [bo, cond_false, Option.bind_some];exact fin 0 _ (h7.up (by omega))
/-! Sorting. -/
theorem mem_swap {α : Type} {l m : List α} {i j : Nat} {x y : α} (h : ∀ a ∈ l, a ∈ m) (hx : x ∈ l) (hy : y ∈ l) : ∀ a ∈ (l.set i x).set j y, a ∈ m := by
 intro a ha;rcases List.mem_or_eq_of_mem_set ha with ha | rfl
 ·rcases List.mem_or_eq_of_mem_set ha with ha | rfl
  ·exact h a ha
  ·exact h a hx
 ·exact h a hy
theorem ins1_is (c : uT1 → uT1 → Option Int) (hc : ∀ a b, ∃ n, c a b = some n) (m : List uT1) (l : List uT1) (j : Int) (hj : 0 ≤ j ∧ j < l.length) (hl : l.length ≤ 1000) (hm : ∀ a ∈ l, a ∈ m) :
  ∃ r, loopO (fun s : List uT1 × Int => uF212a 0 c s.1 s.2) (l, j) = some r ∧ r.length = l.length ∧ ∀ a ∈ r, a ∈ m := by
 refine loopO_ind (step := fun s : List uT1 × Int => uF212a 0 c s.1 s.2) (fun q => 0 ≤ q.2 ∧ q.2 < l.length ∧ q.1.length = l.length ∧ ∀ a ∈ q.1, a ∈ m) (fun r => r.length = l.length ∧ ∀ a ∈ r, a ∈ m) (fun q => q.2.toNat) (fun q hq => ?_) (l, j) ⟨hj.1, hj.2, rfl, hm⟩;obtain ⟨q, k⟩ := q;obtain ⟨k0, k1, k2, k3⟩ := hq;simp only [] at k0 k1 k2 k3;simp only [uF212a];by_cases h : k > 0
 ·have hk : k < q.length := by omega
  obtain ⟨x, hx, mx⟩ := idx_of (l := q) k0 hk;obtain ⟨y, hy, my⟩ := idx_of (l := q) (n := k - 1) (by omega) (by omega);have w : IntKind.wrap .i64 (k - 1) = k - 1 := w64 (by omega) (by omega);obtain ⟨n, hn⟩ := hc x y;simp only [h, decide_true, cond_true, hx, hy, w, hn, Option.bind_some, bnd];cases hd : decide (n < 0) with
  | false => exact .inl ⟨q, by simp, k2, k3⟩
  | true =>
   obtain ⟨z, hz, _⟩ := idx_of (l := q.set k.toNat y) (n := k - 1) (by omega) (by simp; omega);simp only [cond_true, hz, Option.bind_some];exact .inr ⟨_, rfl, ⟨by (try simp only []); omega, by (try simp only []); omega, by simp [k2], mem_swap k3 my mx⟩, by (try simp only []); omega⟩
 ·have hd : decide (k > 0) = false := by simpa using h
  simp only [hd, cond_false, Option.bind_some];exact .inl ⟨q, rfl, k2, k3⟩
theorem ins_is (c : uT1 → uT1 → Option Int) (hc : ∀ a b, ∃ n, c a b = some n) (l : List uT1) (hl : l.length ≤ 1000) :
  ∃ r, uF212 l 0 (l.length : Int) c = some r ∧ r.length = l.length ∧ ∀ a ∈ r, a ∈ l := by
 obtain ⟨r, h1, h2⟩ := loopO_ind (step := fun s : List uT1 × Int => uF212b 0 (l.length : Int) c s.1 s.2) (fun q => 0 ≤ q.2 ∧ q.1.length = l.length ∧ ∀ a ∈ q.1, a ∈ l) (fun r => r.length = l.length ∧ ∀ a ∈ r, a ∈ l) (fun q => (l.length - q.2).toNat) (fun q hq => by
  obtain ⟨q, k⟩ := q;obtain ⟨k0, k2, k3⟩ := hq;simp only [] at k0 k2 k3;simp only [uF212b];by_cases h : k < (l.length : Int)
  ·obtain ⟨r, h1, h2, h3⟩ := ins1_is c hc l q k ⟨k0, by omega⟩ (by omega) k3
   simp only [h, decide_true, cond_true, h1, Option.bind_some, bnd];rw [w64 (by omega) (by omega)];exact .inr ⟨_, rfl, ⟨by (try simp only []); omega, by (try simp only []); omega, h3⟩, by (try simp only []); omega⟩
  ·exact .inl ⟨q, by simp [h], k2, k3⟩) (l, 1) ⟨by simp, rfl, fun _ h => h⟩
 refine ⟨r, ?_, h2⟩;simp only [uF212, bnd];rw [show IntKind.wrap .i64 (0 + 1) = 1 from rfl, h1]; rfl
theorem sort_is (c : uT1 → uT1 → Option Int) (hc : ∀ a b, ∃ n, c a b = some n) (l : List uT1) (hl : l.length ≤ 12) :
  ∃ r, uF109 l c = some r ∧ r.length = l.length ∧ ∀ a ∈ r, a ∈ l := by
 obtain ⟨r, h1, h2⟩ := ins_is c hc l (by omega);refine ⟨r, ?_, h2⟩;have d1 : decide ((20 : Int) ≤ (l.length : Int)) = false := by simp; omega
 have d2 : decide ((20 : Int) < (l.length : Int)) = false := by simp; omega
 have e1 : loopO (fun s : List uT1 × Int × Int => uF167 (l.length : Int) c s.1 s.2.1 s.2.2) (l, 0, 20) = some (l, 0) := by
  rw [loopO_eq]; simp only [uF167, d1, cond_false]
 have e2 : loopO (fun s : Int => uF167a (l.length : Int) s) 20 = some () := by
  rw [loopO_eq]; simp only [uF167a, d2, cond_false]
 simp only [uF109, uF167b, e1, Option.bind_some, h1, e2]
theorem order_total (a b : uT1) : ∃ n, uF110 a b = some n := by
 unfold uF110 uF168 uF119 uF172 uF214;cases (a.At != b.At) with
 | false => exact ⟨_, rfl⟩
 | true =>
  simp only [cond_true, bnd];cases decide (IntKind.wrap .i64 (a.At - b.At) < 0) with
  | true => exact ⟨_, rfl⟩
  | false =>
   cases decide (IntKind.wrap .i64 (a.At - b.At) > 0) <;> exact ⟨_, rfl⟩
theorem records_is (s0 : uT0) (k : Int) (hs : SOk s0 k) (hk : k ≤ 5000) : ∃ s' l, uF52a s0 12 = some (s', l) ∧ l.length ≤ 12 ∧ (∀ r ∈ l, RInv r) ∧ SOk s' (k + 240) := by
 obtain ⟨e, h1, h2, h3, h4⟩ := loopO_ind (step := fun s : List uT1 × Int × Int × uT0 => uF52 12 s.1 s.2.1 s.2.2.1 s.2.2.2)
  (fun q => 0 ≤ q.2.2.1 ∧ q.2.2.1 ≤ 12 ∧ (q.1.length : Int) ≤ q.2.2.1 ∧ (∀ r ∈ q.1, RInv r) ∧ 0 ≤ q.2.1 ∧ q.2.1 ≤ 1296000000 * q.2.2.1 ∧ SOk q.2.2.2 (k + 20 * q.2.2.1))
  (fun e => e.1.length ≤ 12 ∧ (∀ r ∈ e.1, RInv r) ∧ SOk e.2 (k + 240)) (fun q => (12 - q.2.2.1).toNat) (fun q hq => by
   obtain ⟨l, a, n, s⟩ := q;obtain ⟨q0, q1, q2, q3, q4, q5, q6⟩ := hq;simp only [] at q0 q1 q2 q3 q4 q5 q6;by_cases hlt : n < 12
   ·obtain ⟨l', a', s', r', e1, e2, e3, e4, e5, e6⟩ := rec_is l a n s _ q6 (by omega) (by omega) ⟨q0, hlt⟩ ⟨q4, q5⟩
    refine .inr ⟨(l', a', n + 1, s'), e1, ⟨by (try simp only []); omega, by (try simp only []); omega, ?_, ?_, e5, e6, e4.up (by (try simp only []); omega)⟩, by (try simp only []); omega⟩
    ·rcases e2 with rfl | rfl
     ·simp only []; omega
     ·simp; omega
    ·rcases e2 with rfl | rfl
     ·exact q3
     ·intro r hr
      rcases List.mem_append.1 hr with hr | hr
      ·exact q3 r hr
      ·simp at hr; subst hr; exact e3
   ·refine .inl ⟨(l, s), ?_, by (try simp only []); omega, q3, q6.up (by (try simp only []); omega)⟩
    have hd : decide (n < 12) = false := by simpa using hlt
    simp only [uF52, hd, cond_false]) ([], 0, 0, s0) ⟨by simp, by simp, by simp, by simp, by simp, by simp, by simpa using hs⟩
 obtain ⟨l, s⟩ := e;obtain ⟨r, f1, f2, f3⟩ := sort_is (fun a b => uF110 a b) order_total l h2;have h2' : l.length ≤ 12 := h2;refine ⟨s, r, ?_, by omega, fun x hx => h3 x (f3 x hx), h4⟩;simp only [uF52a, h1, Option.bind_some];rw [f1]; rfl

/-! Keys and numbers. -/
theorem foldE_all {α R : Type} (p : α → Bool) (r : R) : ∀ (l : List α) (i : Nat), foldE (S := Unit) (E := Unit ⊕ R) (fun _ a _ => some (if p a = true then .inl () else .inr (.inr r))) (fun _ => .inl ()) i l () = some (if l.all p = true then .inl () else .inr r)
 | [], _ => by simp [foldE]
 | a :: l, i => by
  by_cases h : p a = true
  ·simp only [foldE, List.all_cons, h, if_true, Bool.true_and]; exact foldE_all p r l (i + 1)
  ·simp [foldE, List.all_cons, h]
def onlyB (s c : List UInt8) : Bool := s.all fun x => decide (Lib.indexByte c x ≥ 0)
theorem only_is (s c : List UInt8) (hs : s.length ≤ 1000) : uF169 s c = some (onlyB s c) := by
 have h := loop_list (step := fun w : Int => uF169a s c w) s (fun i (_ : Unit) => (i : Int)) (fun _ a _ => some (if decide (Lib.indexByte c a ≥ 0) = true then .inl () else .inr (.inr false))) (fun _ => .inl ()) (fun i a st hi => by
  have hlt := (List.getElem?_eq_some_iff.1 hi).1;have hd : decide ((i : Int) < (List.length s : Int)) = true := by simpa using hlt
  have ha : a.toNat.toUInt8 = a := by simp
  simp only [uF169a, hd, cond_true, idx_nat, hi, Option.bind_some, uF141, uF191, uF224, Int.toNat_natCast, ha];rw [w64 (by omega) (by omega)];by_cases hx : Lib.indexByte c a < 0
  ·have h2 : ¬ (Lib.indexByte c a ≥ 0) := by omega
   simp [hx, h2]
  ·have h2 : Lib.indexByte c a ≥ 0 := by omega
   simp [hx, h2]) (fun st => by simp [uF169a]) ()
 rw [foldE_all] at h;have h1 : loopO (fun w : Int => uF169a s c w) 0 = some (if onlyB s c = true then .inl () else .inr false) := h;simp only [uF169, h1];cases onlyB s c <;> rfl
noncomputable def onlyO (s c : List UInt8) : Option Bool := if s.length ≤ 1000 then some (onlyB s c) else uF169 s c
theorem only_eq (s c : List UInt8) : uF169 s c = onlyO s c := by
 unfold onlyO;split
 ·next h => exact only_is s c h
 ·rfl
noncomputable def keyO (x0 : List UInt8) : Option (Bool) := (uF114 ((List.length x0 : Int)) ((1 : Int)) ((40 : Int))).bind fun y1 => (bif y1 then ((sub x0 0 ((1 : Int))).bind fun y9 => (onlyO y9 (([97, 98, 99, 100, 101, 102, 103, 104, 105, 106, 107, 108, 109, 110, 111, 112, 113, 114, 115, 116, 117, 118, 119, 120, 121, 122] : List UInt8))).bind fun y11 => some y11) else (some false)).bind fun y14 => (bif y14 then ((onlyO x0 (([97, 98, 99, 100, 101, 102, 103, 104, 105, 106, 107, 108, 109, 110, 111, 112, 113, 114, 115, 116, 117, 118, 119, 120, 121, 122, 48, 49, 50, 51, 52, 53, 54, 55, 56, 57, 45, 95] : List UInt8))).bind fun y25 => some y25) else (some false)).bind fun y28 => some y28
noncomputable def phoneO (x0 : List UInt8) : Option (Bool) := (uF130 x0 (([43] : List UInt8))).bind fun y1 => (bif y1.2 then ((uF114 ((List.length y1.1 : Int)) ((4 : Int)) ((15 : Int))).bind fun y9 => some y9) else (some false)).bind fun y12 => (bif y12 then ((onlyO y1.1 (([48, 49, 50, 51, 52, 53, 54, 55, 56, 57] : List UInt8))).bind fun y23 => some y23) else (some false)).bind fun y26 => (bif y26 then ((idx y1.1 ((0 : Int))).bind fun y37 => some ((((y37.toNat : Int)) != ((48 : Int))))) else (some false)).bind fun y39 => some y39
theorem key_eq (s : List UInt8) : uF111 s = keyO s := by
 simp only [uF111, keyO, only_eq]
theorem phone_eq (s : List UInt8) : uF112 s = phoneO s := by
 simp only [uF112, phoneO, only_eq]
theorem ids_all : (IDS ++ CARS).all (fun s => (keyO s).isSome && (uF69 s == keyO s)) = true := by kernel_rfl
theorem phs_all : PH.all (fun s => (phoneO s).isSome && (uF68 s == phoneO s)) = true := by kernel_rfl
theorem id_key {s : List UInt8} (h : s ∈ IDS ++ CARS) : ∃ b, uF111 s = some b ∧ uF69 s = some b := by
 have := List.all_eq_true.1 ids_all s h
 rw [Bool.and_eq_true, beq_iff_eq] at this;obtain ⟨b, e⟩ := Option.isSome_iff_exists.1 this.1;exact ⟨b, by rw [key_eq, e], by rw [this.2, e]⟩
theorem ph_num {s : List UInt8} (h : s ∈ PH) : ∃ b, uF112 s = some b ∧ uF68 s = some b := by
 have := List.all_eq_true.1 phs_all s h
 rw [Bool.and_eq_true, beq_iff_eq] at this;obtain ⟨b, e⟩ := Option.isSome_iff_exists.1 this.1;exact ⟨b, by rw [phone_eq, e], by rw [this.2, e]⟩

/-! Maps. -/
theorem mget_mput {κ β : Type} [DecidableEq κ] (m : List (κ × β)) (k k' : κ) (v : β) : mget (mput m k v) k' = if k = k' then some v else mget m k' := by
 induction m with
 | nil => simp only [mput, mget]
 | cons a m ih =>
  obtain ⟨a, b⟩ := a;simp only [mput];by_cases h : a = k
  ·subst h
   simp only [if_true, mget];by_cases h2 : a = k'
   ·simp [h2]
   ·simp [h2]
  ·simp only [h, if_false, mget, ih]
   by_cases h2 : a = k'
   ·subst h2
    have : ¬ k = a := fun e => h e.symm;simp [this]
   ·simp [h2]
theorem mput_len {κ β : Type} [DecidableEq κ] (m : List (κ × β)) (k : κ) (v : β) : (mput m k v).length = if (mget m k).isSome = true then m.length else m.length + 1 := by
 induction m with
 | nil => simp [mput, mget]
 | cons a m ih =>
  obtain ⟨a, b⟩ := a;simp only [mput, mget];by_cases h : a = k
  ·simp [h]
  ·simp only [h, if_false, List.length_cons, ih]
   split <;> rfl

/-! Records are right. -/
theorem cond_some {α : Type} (c : Bool) (a b : α) : (bif c then some a else some b) = some (bif c then a else b) := by cases c <;> rfl
def ROk (l : List uT1) (i : Nat) (r : uT1) : Prop := uF69 r.Id = some true ∧ uF68 r.From = some true ∧ uF68 r.To = some true ∧ 0 ≤ r.At ∧ r.At ≤ 345686399999 ∧ 0 ≤ r.Ring ∧ r.Ring ≤ 86400000 ∧ 0 ≤ r.Talk ∧ r.Talk ≤ 86400000 ∧ 1 ≤ r.How ∧ r.How ≤ 4 ∧
  ((r.How == 1) = decide (r.Talk > 0)) ∧ (r.Carrier = [] ∨ uF69 r.Carrier = some true) ∧ (0 < i → ∃ p n, l[i - 1]? = some p ∧ uF110 p r = some n ∧ n < 0)
theorem cnd_l {α : Type} {c : Bool} {a b : α} {e : α} (h : (bif c then a else b) = e) (hne : a ≠ e) : c = false ∧ b = e := by
 cases c with
 | true => exact absurd h hne
 | false => exact ⟨rfl, h⟩
theorem fault_step (l : List uT1) (i : Nat) (r : uT1) (hi : l[i]? = some r) (hr : RInv r) (hl : l.length ≤ 1000) (s : Int) (h : uF53 l (i : Int) = some (.inl s)) : ROk l i r ∧ s = (i : Int) + 1 := by
 obtain ⟨i1, i2, i3, i4, i5, i6, i7⟩ := hr;obtain ⟨b1, f1, g1⟩ := id_key (List.mem_append_left CARS i1);obtain ⟨b2, f2, g2⟩ := ph_num i2;obtain ⟨b3, f3, g3⟩ := ph_num i3;obtain ⟨b4, f4, g4⟩ := id_key (List.mem_append_right IDS i4);have hlt := (List.getElem?_eq_some_iff.1 hi).1;have hd : decide ((i : Int) < (List.length l : Int)) = true := by simpa using hlt
 have w : IntKind.wrap .i64 ((i : Int) + 1) = i + 1 := w64 (by omega) (by omega);simp only [uF53, hd, cond_true, idx_nat, hi, Option.bind_some, f1, f2, f3, f4, uF113, uF114, bnd, cond_some, w] at h;obtain ⟨c1, h⟩ := cnd_l h (by simp);obtain ⟨c2, h⟩ := cnd_l h (by simp);obtain ⟨c3, h⟩ := cnd_l h (by simp);obtain ⟨c4, h⟩ := cnd_l h (by simp);obtain ⟨c5, h⟩ := cnd_l h (by simp);obtain ⟨c6, h⟩ := cnd_l h (by simp);have h14 : (0 < i → ∃ p n, l[i - 1]? = some p ∧ uF110 p r = some n ∧ n < 0) ∧ s = (i : Int) + 1 := by
  by_cases h0 : 0 < i
  ·have hp : i - 1 < l.length := by omega
   have w1 : IntKind.wrap .i64 ((i : Int) - 1) = ((i - 1 : Nat) : Int) := by rw [w64 (by omega) (by omega)]; omega
   have d0 : decide ((i : Int) > 0) = true := by simpa using h0
   obtain ⟨n, hn⟩ := order_total l[i - 1] r;simp only [d0, cond_true, w1, idx_at hp, Option.bind_some, hn] at h;obtain ⟨c7, h⟩ := cnd_l (Option.some.inj h) (by simp)
   have := Sum.inl.inj h
   exact ⟨fun _ => ⟨l[i - 1], n, by simp [hp], hn, by simp at c7; omega⟩, this.symm⟩
  ·have d0 : decide ((i : Int) > 0) = false := by simp; omega
   simp only [d0, cond_false, Option.bind_some] at h
   have := Sum.inl.inj (Option.some.inj h)
   exact ⟨fun h => absurd h h0, this.symm⟩
 refine ⟨⟨?_, ?_, ?_, ?_⟩, h14.2⟩
 ·rw [g1]; cases b1 <;> simp_all
 ·rw [g2]; cases b2 <;> simp_all
 ·rw [g3]; cases b2 <;> cases b3 <;> simp_all
 ·have q3 : 0 ≤ r.At ∧ r.At ≤ 345686399999 ∧ 0 ≤ r.Ring ∧ r.Ring ≤ 86400000 ∧ 0 ≤ r.Talk ∧ r.Talk ≤ 86400000 := by
   revert c3;cases ha : (decide (0 ≤ r.At) && decide (r.At ≤ 345686399999)) <;> cases hb : (decide (0 ≤ r.Ring) && decide (r.Ring ≤ 86400000)) <;> cases hc : (decide (0 ≤ r.Talk) && decide (r.Talk ≤ 86400000)) <;> simp
   simp at ha hb hc;omega
  have q4 : 1 ≤ r.How ∧ r.How ≤ 4 := by simpa using c4
  have q5 : (r.How == 1) = decide (r.Talk > 0) := by
   cases ha : (r.How == 1) <;> cases hb : decide (r.Talk > 0) <;> simp [ha, hb] at c5 ⊢
  have q6 : r.Carrier = [] ∨ uF69 r.Carrier = some true := by
   by_cases hc : r.Carrier = []
   ·exact .inl hc
   ·have : (r.Carrier == []) = false := by simpa using hc
    rw [this] at c6;simp at c6;exact .inr (by rw [g4, c6])
  exact ⟨q3.1, q3.2.1, q3.2.2.1, q3.2.2.2.1, q3.2.2.2.2.1, q3.2.2.2.2.2, q4.1, q4.2, q5, q6, h14.1⟩
theorem tot {S E : Type} {c : Bool} {e : Int} {s : S} {b : Option (S ⊕ (E ⊕ Int))} (he : e ≠ 0) (h : b = some (.inl s) ∨ ∃ e', e' ≠ 0 ∧ b = some (.inr (.inr e'))) :
  (bif c then some (.inr (.inr e)) else b) = some (.inl s) ∨ ∃ e', e' ≠ 0 ∧ (bif c then some (.inr (.inr e)) else b) = some (.inr (.inr e')) := by
 cases c with
 | true => exact .inr ⟨e, he, rfl⟩
 | false => exact h
theorem fault_total (l : List uT1) (i : Nat) (r : uT1) (hi : l[i]? = some r) (hr : RInv r) (hl : l.length ≤ 1000) : uF53 l (i : Int) = some (.inl ((i : Int) + 1)) ∨ ∃ e, e ≠ 0 ∧ uF53 l (i : Int) = some (.inr (.inr e)) := by
 obtain ⟨i1, i2, i3, i4, i5, i6, i7⟩ := hr;obtain ⟨b1, f1, g1⟩ := id_key (List.mem_append_left CARS i1);obtain ⟨b2, f2, g2⟩ := ph_num i2;obtain ⟨b3, f3, g3⟩ := ph_num i3;obtain ⟨b4, f4, g4⟩ := id_key (List.mem_append_right IDS i4);have hlt := (List.getElem?_eq_some_iff.1 hi).1;have hd : decide ((i : Int) < (List.length l : Int)) = true := by simpa using hlt
 have w : IntKind.wrap .i64 ((i : Int) + 1) = i + 1 := w64 (by omega) (by omega);simp only [uF53, hd, cond_true, idx_nat, hi, Option.bind_some, f1, f2, f3, f4, uF113, uF114, bnd, cond_some, w];refine tot (by decide) (tot (by decide) (tot (by decide) (tot (by decide) (tot (by decide) (tot (by decide) ?_)))));by_cases h0 : 0 < i
 ·have hp : i - 1 < l.length := by omega
  have w1 : IntKind.wrap .i64 ((i : Int) - 1) = ((i - 1 : Nat) : Int) := by rw [w64 (by omega) (by omega)]; omega
  have d0 : decide ((i : Int) > 0) = true := by simpa using h0
  obtain ⟨n, hn⟩ := order_total l[i - 1] r;simp only [d0, cond_true, w1, idx_at hp, Option.bind_some, hn];cases decide (n ≥ 0) with
  | true => exact .inr ⟨7, by decide, rfl⟩
  | false => exact .inl rfl
 ·have d0 : decide ((i : Int) > 0) = false := by simp; omega
  simp only [d0, cond_false, Option.bind_some];exact .inl trivial
def ids (m : List (List UInt8 × Bool)) (l : List uT1) : List (List UInt8 × Bool) := l.foldl (fun m r => mput m r.Id true) m
theorem ids_add (m : List (List UInt8 × Bool)) (l : List uT1) (r : uT1) : ids m (l ++ [r]) = mput (ids m l) r.Id true := by simp [ids]
theorem ids_get (k : List UInt8) : ∀ (l : List uT1) (m : List (List UInt8 × Bool)), k ∉ l.map (·.Id) → mget (ids m l) k = mget m k
 | [], _, _ => rfl
 | r :: l, m, h => by
  rw [List.map_cons, List.mem_cons, not_or] at h
  show mget (ids (mput m r.Id true) l) k = _
  rw [ids_get k l _ h.2, mget_mput, if_neg fun e => h.1 e.symm]
theorem ids_len : ∀ (l : List uT1) (m : List (List UInt8 × Bool)), (ids m l).length ≤ m.length + l.length ∧ ((ids m l).length = m.length + l.length → (l.map (·.Id)).Nodup ∧ ∀ r ∈ l, mget m r.Id = none)
 | [], m => ⟨Nat.le_refl _, fun _ => ⟨List.nodup_nil, by simp⟩⟩
 | r :: l, m => by
  have ih := ids_len l (mput m r.Id true)
  have hl := mput_len m r.Id true
  have e : ids m (r :: l) = ids (mput m r.Id true) l := rfl
  rw [e, List.length_cons]
  cases hg : mget m r.Id with
  | some v =>
   rw [hg] at hl
   simp at hl
   exact ⟨by omega, fun h => by omega⟩
  | none =>
   rw [hg] at hl
   simp at hl
   refine ⟨by omega, fun h => ?_⟩
   obtain ⟨h1, h2⟩ := ih.2 (by omega)
   refine ⟨?_, ?_⟩
   ·rw [List.map_cons, List.nodup_cons]
    refine ⟨fun hm => ?_, h1⟩
    obtain ⟨x, hx, he⟩ := List.mem_map.1 hm
    have := h2 x hx
    rw [mget_mput, if_pos he.symm] at this
    cases this
   ·intro x hx
    rcases List.mem_cons.1 hx with rfl | hx
    ·exact hg
    ·have := h2 x hx
     rw [mget_mput] at this
     split at this
     ·cases this
     ·exact this
def XGood (l : List uT1) : Prop := l.length ≤ 12 ∧ (∀ (i : Nat) r, l[i]? = some r → ROk l i r) ∧ (∀ r ∈ l, RInv r) ∧ (l.map (·.Id)).Nodup
theorem fault_is (l : List uT1) (hl : l.length ≤ 12) (hr : ∀ r ∈ l, RInv r) : ∃ e, uF53b l = some e ∧ (e = 0 → XGood l) := by
 obtain ⟨e, h1, h2⟩ := loopO_ind (step := fun s : Int => uF53 l s) (fun n => 0 ≤ n ∧ n ≤ l.length ∧ ∀ (i : Nat) r, (i : Int) < n → l[i]? = some r → ROk l i r)
  (fun e => (e = .inl () ∧ ∀ (i : Nat) r, l[i]? = some r → ROk l i r) ∨ ∃ x, x ≠ 0 ∧ e = .inr x) (fun n => (l.length - n).toNat) (fun n hn => by
   obtain ⟨n0, n1, n2⟩ := hn;obtain ⟨i, rfl⟩ := Int.eq_ofNat_of_zero_le n0;by_cases hlt : i < l.length
   ·have hi : l[i]? = some l[i] := by simp [hlt]
    rcases fault_total l i _ hi (hr _ (List.getElem_mem hlt)) (by omega) with h | ⟨x, hx, h⟩
    ·refine .inr ⟨_, h, ⟨by omega, by omega, fun j r hj hjr => ?_⟩, by omega⟩
     by_cases hji : j = i
     ·subst hji
      rw [hi] at hjr;cases hjr
      exact (fault_step l j _ hi (hr _ (List.getElem_mem hlt)) (by omega) _ h).1
     ·exact n2 j r (by omega) hjr
    ·exact .inl ⟨_, h, .inr ⟨x, hx, rfl⟩⟩
   ·have hd : decide ((i : Int) < (List.length l : Int)) = false := by simp; omega
    refine .inl ⟨.inl (), by simp only [uF53, hd, cond_false], .inl ⟨rfl, fun j r hj => n2 j r ?_ hj⟩⟩
    have := (List.getElem?_eq_some_iff.1 hj).1
    omega) 0 ⟨by omega, by omega, fun i r h => by omega⟩
 have hc : decide ((List.length l : Int) > 3000) = false := by simp; omega
 rcases h2 with ⟨rfl, h2⟩ | ⟨x, hx, rfl⟩
 ·have h3 := loop_for (N := l.length) (step := fun s : List (List UInt8 × Bool) × Int => uF53a l s.1 s.2) (fun k => (ids [] (l.take k), (k : Int))) (ids [] l) (fun k hk => by
   have hd : decide ((k : Int) < (List.length l : Int)) = true := by simpa using hk
   simp only [uF53a, hd, cond_true, idx_at hk, Option.bind_some, bnd];rw [w64 (by omega) (by omega), List.take_succ_eq_append_getElem hk, ids_add]; rfl) (by simp [uF53a])
  have h3' : loopO (fun s : List (List UInt8 × Bool) × Int => uF53a l s.1 s.2) ([], 0) = some (ids [] l) := h3;simp only [uF53b, hc, cond_false, h1, lret, h3', Option.bind_some];by_cases hz : ((ids [] l).length : Int) < (l.length : Int)
  ·simp only [hz, decide_true, cond_true]
   exact ⟨6, rfl, fun h => absurd h (by decide)⟩
  ·simp only [hz, decide_false, cond_false]
   have := ids_len l []
   simp at this;exact ⟨0, rfl, fun _ => ⟨hl, h2, hr, (this.2 (by omega)).1⟩⟩
 ·simp only [uF53b, hc, cond_false, h1, lret]
  exact ⟨x, rfl, fun h => absurd h hx⟩
theorem right_is (s0 : uT0) (k : Int) (hs : SOk s0 k) (hk : k ≤ 1000) : ∃ s' l, uF11 s0 12 = some (s', l) ∧ XGood l := by
 have nil : XGood [] := ⟨by simp, by simp, by simp, by simp⟩;obtain ⟨e, h1, h2⟩ := loopO_ind (step := fun s : Int × uT0 => uF11a 12 s.1 s.2) (fun q => 0 ≤ q.1 ∧ q.1 ≤ 5 ∧ SOk q.2 (k + 240 * q.1))
  (fun e => match e with
   | .inl _ => True
   | .inr r => XGood r.2) (fun q => (5 - q.1).toNat) (fun q hq => by
   obtain ⟨n, s⟩ := q;obtain ⟨q0, q1, q2⟩ := hq;simp only [] at q0 q1 q2;simp only [uF11a];by_cases hlt : n < 5
   ·obtain ⟨s', l, e1, l1, l2, l3⟩ := records_is s _ q2 (by omega)
    obtain ⟨x, e2, hx⟩ := fault_is l l1 l2;simp only [hlt, decide_true, cond_true, e1, Option.bind_some, e2];by_cases h0 : x = 0
    ·subst h0
     exact .inl ⟨.inr (s', l), rfl, hx rfl⟩
    ·have hb : (x == 0) = false := by simpa using h0
     simp only [hb, cond_false];rw [w64 (by omega) (by omega)];exact .inr ⟨_, rfl, ⟨by (try simp only []); omega, by (try simp only []); omega, l3.up (by (try simp only []); omega)⟩, by (try simp only []); omega⟩
   ·exact .inl ⟨.inl s, by simp [hlt], trivial⟩) (0, s0) ⟨by simp, by simp, by simpa using hs⟩
 simp only [uF11, h1, lret];match e, h2 with
 | .inl s, _ => exact ⟨s, [], rfl, nil⟩
 | .inr r, h2 => exact ⟨r.1, r.2, rfl, h2⟩

/-! CheckRecords. -/
theorem or_is (a b : Int) : uF151a [a, b] = some (if a ≠ 0 then a else b) := by
 have i0 : idx [a, b] 0 = some a := rfl;have i1 : idx [a, b] 1 = some b := rfl;have hl : ((List.length [a, b] : Nat) : Int) = 2 := rfl;by_cases ha : a = 0
 ·subst ha
  by_cases hb : b = 0
  ·subst hb
   have : loopO (fun s : Int => uF151 [0, 0] s) 0 = some (.inl ()) := by
    rw [loopO_eq]; simp only [uF151, hl, i0];show loopO (fun s : Int => uF151 [0, 0] s) 1 = _;rw [loopO_eq]; simp only [uF151, hl, i1];show loopO (fun s : Int => uF151 [0, 0] s) 2 = _;rw [loopO_eq]; rfl
   simp only [uF151a, this, lret]; rfl
  ·have hbb : (b != 0) = true := by simpa using hb
   have : loopO (fun s : Int => uF151 [0, b] s) 0 = some (.inr b) := by
    rw [loopO_eq]; simp only [uF151, hl, i0];show loopO (fun s : Int => uF151 [0, b] s) 1 = _;rw [loopO_eq]; simp only [uF151, hl, i1, Option.bind_some, hbb, cond_true];rfl
   simp only [uF151a, this, lret]; simp
 ·have haa : (a != 0) = true := by simpa using ha
  have : loopO (fun s : Int => uF151 [a, b] s) 0 = some (.inr a) := by
   rw [loopO_eq]; simp only [uF151, hl, i0, Option.bind_some, haa, cond_true];rfl
  simp only [uF151a, this, lret]; simp [ha]
theorem compare_of {p r : uT1} {n : Int} (h : uF110 p r = some n) (hn : n < 0) (hp : 0 ≤ p.At ∧ p.At ≤ 345686399999) (hr : 0 ≤ r.At ∧ r.At ≤ 345686399999) : ∃ n', uF171 p r = some n' ∧ n' < 0 := by
 have cmp : uF152 p.At r.At = some (if p.At < r.At then -1 else if p.At > r.At then 1 else 0) := by
  simp only [uF152, uF198, bnd, bne_self_eq_false, Option.bind_some, cond_false];by_cases h1 : p.At < r.At
  ·simp [h1]
  ·by_cases h2 : p.At > r.At
   ·simp [h1, h2]
   ·simp [h1, h2]
 have sc : uF119 p.Id r.Id = some (Lib.compareBytes p.Id r.Id) := rfl;simp only [uF171, cmp, Option.bind_some, sc, or_is];by_cases he : p.At = r.At
 ·have hb : (p.At != r.At) = false := by simpa using he
  simp only [uF110, hb, cond_false, sc, Option.bind_some] at h;have h := Option.some.inj h;refine ⟨_, rfl, ?_⟩;simp [he]; omega
 ·have hb : (p.At != r.At) = true := by simpa using he
  have w : IntKind.wrap .i64 (p.At - r.At) = p.At - r.At := w64 (by omega) (by omega);simp only [uF110, hb, cond_true, uF168, w, bnd, Option.bind_some] at h;refine ⟨_, rfl, ?_⟩;by_cases h1 : p.At < r.At
  ·simp [h1]
  ·have h2 : p.At > r.At := by omega
   have d1 : decide (p.At - r.At < 0) = false := by simp; omega
   have d2 : decide (p.At - r.At > 0) = true := by simp; omega
   simp only [d1, cond_false, d2, cond_true, Option.bind_some] at h;have h := Option.some.inj h;omega
theorem check_is {l : List uT1} (h : XGood l) : uF116a l = some 0 := by
 obtain ⟨h1, h2, h3, h4⟩ := h;have hc : decide ((List.length l : Int) > 3000) = false := by simp; omega
 have key := loop_for (N := l.length) (step := fun s : List (List UInt8 × Bool) × Bool × Int => uF116 l s.1 s.2.1 s.2.2) (fun k => (ids [] (l.take k), false, (k : Int))) (.inl false) (fun k hk => by
  have hd : decide ((k : Int) < (List.length l : Int)) = true := by simpa using hk
  have hi : l[k]? = some l[k] := by simp [hk]
  obtain ⟨a1, a2, a3, a4, a5, a6, a7, a8, a9, a10, a11, a12, a13, a14⟩ := h2 k _ hi;have w : IntKind.wrap .i64 ((k : Int) + 1) = ((k + 1 : Nat) : Int) := by rw [w64 (by omega) (by omega)]; omega
  have m1 : uF70 l[k].At = some true := by
   have e1 : decide (l[k].At ≥ 0) = true := by simpa using a4
   have e2 : decide (l[k].At < 345686400000) = true := by simp; omega
   simp only [uF70, bnd, e1, e2, Bool.and_self]
  have m2 : ∀ x lo hi : Int, lo ≤ x → x ≤ hi → uF120 x lo hi = some true := by
   intro x lo hi q1 q2;simp [uF120, bnd, q1, q2]
  have m3 : (bif (!(l[k].Carrier == [])) then (uF69 l[k].Carrier).bind fun y172 => some (!y172) else some false) = some false := by
   rcases a13 with a13 | a13
   ·rw [a13]; rfl
   ·rw [a13]; cases (!(l[k].Carrier == [])) <;> rfl
  have m4 : (bif decide ((k : Int) > 0) then (idx l (IntKind.wrap .i64 ((k : Int) - 1))).bind fun y203 => (uF171 y203 l[k]).bind fun y209 => some (decide (y209 ≥ 0)) else some false) = some false := by
   by_cases h0 : 0 < k
   ·obtain ⟨p, n, p1, p2, p3⟩ := a14 h0
    have w1 : IntKind.wrap .i64 ((k : Int) - 1) = ((k - 1 : Nat) : Int) := by rw [w64 (by omega) (by omega)]; omega
    have d0 : decide ((k : Int) > 0) = true := by simpa using h0
    obtain ⟨_, _, _, b4, b5, _⟩ := h2 _ _ p1;obtain ⟨n', q1, q2⟩ := compare_of p2 p3 ⟨b4, b5⟩ ⟨a4, a5⟩;have d1 : decide (n' ≥ 0) = false := by simp; omega
    simp only [d0, cond_true, w1, idx_nat, p1, Option.bind_some, q1, d1]
   ·have d0 : decide ((k : Int) > 0) = false := by simp; omega
    simp only [d0, cond_false]
  have m5 : mget (ids [] (l.take k)) l[k].Id = none := by
   rw [ids_get]
   ·rfl
   ·intro hm
    have e : l.map (·.Id) = (l.take k).map (·.Id) ++ (l.drop k).map (·.Id) := by rw [← List.map_append, List.take_append_drop]
    rw [e, List.nodup_append] at h4;exact h4.2.2 _ hm _ (List.mem_map.2 ⟨l[k], by rw [List.drop_eq_getElem_cons hk]; exact List.mem_cons_self, rfl⟩) rfl
  simp only [uF116, hd, cond_true, idx_at hk, Option.bind_some, a1, a2, a3, Bool.not_true, cond_false, m1, m2 _ _ _ a6 a7, m2 _ _ _ a8 a9, m2 _ _ _ a10 a11, a12, beq_self_eq_true, bnd, m3, m4, m5, Option.getD_none, Bool.or_false, w];rw [List.take_succ_eq_append_getElem hk, ids_add]) (by simp [uF116])
 have key' : loopO (fun s : List (List UInt8 × Bool) × Bool × Int => uF116 l s.1 s.2.1 s.2.2) ([], false, 0) = some (.inl false) := key;simp only [uF116a, hc, cond_false, key', lret]
def pxs : List (List UInt8) := [[], [43, 52], [43, 52, 57], [43, 52, 57, 51, 48], [43, 53]]
def PX (i : Nat) : List UInt8 := pxs.getD i []
def nms : List (List UInt8) := [[104, 111, 109, 101], [110, 101, 97, 114], [102, 97, 114]]
def inss : List (List (List UInt8)) := [[], [[104, 111, 109, 101]], [[104, 111, 109, 101], [110, 101, 97, 114]]]
def CGood (c : uT4) : Prop := c.Name ∈ nms ∧ 0 ≤ c.Setup ∧ c.Setup ≤ 1000 ∧ 0 ≤ c.First ∧ c.First ≤ 60000 ∧ 1 ≤ c.Step ∧ c.Step ≤ 60000 ∧ 0 ≤ c.Rate ∧ c.Rate ≤ 500
def Srt (cs : List uT4) (top : Nat) : Prop := ∃ js : List Nat, js.length = cs.length ∧ (∀ m (h : m < cs.length), ∃ j, js[m]? = some j ∧ cs[m].Prefix = PX j) ∧ (∀ j ∈ js, j < top) ∧ js.Pairwise (· < ·)
def TGood (t : uT6) : Prop := t.Classes.length ≤ 5 ∧ (∀ c ∈ t.Classes, CGood c) ∧ Srt t.Classes 5 ∧ 0 ≤ t.Free ∧ t.Free ≤ 90000 ∧ t.Inside ∈ inss

theorem Srt.add {cs : List uT4} {n : Nat} (h : Srt cs n) {c : uT4} (hc : c.Prefix = PX n) : Srt (cs ++ [c]) (n + 1) := by
 obtain ⟨js, h1, h2, h3, h4⟩ := h;refine ⟨js ++ [n], by simp [h1], fun m hm => ?_, fun j hj => ?_, ?_⟩
 ·simp at hm
  by_cases e : m < cs.length
  ·obtain ⟨j, p1, p2⟩ := h2 m e
   exact ⟨j, by rw [List.getElem?_append_left (by omega), p1], by rw [List.getElem_append_left e, p2]⟩
  ·have e2 : m = cs.length := by omega
   subst e2;exact ⟨n, by simp [← h1], by simp [hc]⟩
 ·rcases List.mem_append.1 hj with hj | hj
  ·have := h3 j hj; omega
  ·simp at hj; omega
 ·rw [List.pairwise_append]
  exact ⟨h4, by simp, fun x hx y hy => by simp at hy; have := h3 x hx; omega⟩
theorem Srt.up {cs : List uT4} {n m : Nat} (h : Srt cs n) (e : n ≤ m) : Srt cs m := by
 obtain ⟨js, h1, h2, h3, h4⟩ := h;exact ⟨js, h1, h2, fun j hj => Nat.lt_of_lt_of_le (h3 j hj) e, h4⟩

theorem tariff_is (s0 : uT0) (k : Int) (hs : SOk s0 k) (hk : k ≤ 100) : ∃ s' t, uF9 s0 = some (s', t) ∧ TGood t ∧ SOk s' (k + 40) := by
 obtain ⟨fr, e1, fr1⟩ := pick_in s0 [0, 0, 60000, 90000] _ hs (by omega) (by simp) (by simp);have fr2 : 0 ≤ fr ∧ fr ≤ 90000 := by simp at fr1; omega
 obtain ⟨u, e2, u1, u2⟩ := next_is ⟨s0.L, s0.at_ + 1⟩ 3 _ hs.one (by omega) (by omega) (by omega);obtain ⟨ins, hins, hinm⟩ := idx_of (l := inss) u1 (by simpa [inss] using u2);obtain ⟨e, h1, h2⟩ := loopO_ind (step := fun s : Int × uT6 × uT0 => uF9a s.1 s.2.1 s.2.2)
  (fun q => (∃ n : Nat, q.1 = (n : Int) ∧ n ≤ 5 ∧ (q.2.1.Classes.length : Int) ≤ n ∧ Srt q.2.1.Classes n) ∧ (∀ c ∈ q.2.1.Classes, CGood c) ∧ q.2.1.Free = fr ∧ q.2.1.Inside = ins ∧ SOk q.2.2 (k + 2 + 6 * q.1))
  (fun e => TGood e.1 ∧ SOk e.2 (k + 40)) (fun q => (5 - q.1).toNat) (fun q hq => by
   obtain ⟨n0, ⟨cs, f0, i0⟩, s⟩ := q;obtain ⟨⟨n, rfl, q1, q2, q3⟩, q4, q5, q6, q7⟩ := hq;simp only [] at q1 q2 q3 q4 q5 q6 q7;subst q5; subst q6;simp only [uF9a];have hlen : ((List.length (([([] : List UInt8), ([43, 52] : List UInt8), ([43, 52, 57] : List UInt8), ([43, 52, 57, 51, 48] : List UInt8), ([43, 53] : List UInt8)] : List (List UInt8))) : Nat) : Int) = 5 := rfl;rw [hlen];by_cases hlt : (n : Int) < 5
   ·have hpx : idx ([([] : List UInt8), ([43, 52] : List UInt8), ([43, 52, 57] : List UInt8), ([43, 52, 57, 51, 48] : List UInt8), ([43, 53] : List UInt8)] : List (List UInt8)) (n : Int) = some (PX n) := by
     rw [idx_nat];rcases (by omega : n = 0 ∨ n = 1 ∨ n = 2 ∨ n = 3 ∨ n = 4) with rfl | rfl | rfl | rfl | rfl <;> rfl
    obtain ⟨f1, g1⟩ := flip_is s 3 _ q7 (by omega) (by omega) (by omega);cases f1 with
    | true =>
     refine .inr ⟨((n : Int) + 1, ⟨cs, f0, i0⟩, ⟨s.L, s.at_ + 1⟩), ?_, ⟨⟨n + 1, by (try simp only []); omega, by omega, by (try simp only []); omega, q3.up (by omega)⟩, q4, rfl, rfl, q7.one.up (by (try simp only []); omega)⟩, by (try simp only []); omega⟩;simp only [hlt, decide_true, cond_true, hpx, Option.bind_some, g1];rw [w64 (by omega) (by omega)]
    | false =>
     obtain ⟨nm, g2, nm1⟩ := some_in ⟨s.L, s.at_ + 1⟩ nms _ q7.one (by omega) (by simp [nms]) (by simp [nms]);obtain ⟨a, g3, a1⟩ := pick_in ⟨s.L, s.at_ + 1 + 1⟩ [0, 0, 1000, 999] _ q7.one.one (by omega) (by simp) (by simp);obtain ⟨b, g4, b1⟩ := pick_in ⟨s.L, s.at_ + 1 + 1 + 1⟩ [0, 0, 60000] _ q7.one.one.one (by omega) (by simp) (by simp);obtain ⟨c, g5, c1⟩ := pick_in ⟨s.L, s.at_ + 1 + 1 + 1 + 1⟩ [1, 1000, 60000] _ q7.one.one.one.one (by omega) (by simp) (by simp);obtain ⟨d, g6, d1⟩ := pick_in ⟨s.L, s.at_ + 1 + 1 + 1 + 1 + 1⟩ [0, 1, 10, 500] _ q7.one.one.one.one.one (by omega) (by simp) (by simp);have a2 : 0 ≤ a ∧ a ≤ 1000 := by simp at a1; omega
     have b2 : 0 ≤ b ∧ b ≤ 60000 := by simp at b1; omega
     have c2 : 1 ≤ c ∧ c ≤ 60000 := by simp at c1; omega
     have d2 : 0 ≤ d ∧ d ≤ 500 := by simp at d1; omega
     refine .inr ⟨((n : Int) + 1, ⟨cs ++ [⟨PX n, nm, a, b, c, d⟩], f0, i0⟩, ⟨s.L, s.at_ + 1 + 1 + 1 + 1 + 1 + 1⟩), ?_, ⟨⟨n + 1, by (try simp only []); omega, by omega, by simp; omega, q3.add rfl⟩, fun x hx => ?_, rfl, rfl, q7.one.one.one.one.one.one.up (by (try simp only []); omega)⟩, by (try simp only []); omega⟩
     ·simp only [nms] at g2
      simp only [hlt, decide_true, cond_true, cond_false, hpx, Option.bind_some, g1, g2, g3, g4, g5, g6];rw [app_of (by simp; omega) (by simp; omega), w64 (by omega) (by omega)];rfl
     ·rcases List.mem_append.1 hx with hx | hx
      ·exact q4 x hx
      ·simp at hx; subst hx
       exact ⟨nm1, a2.1, a2.2, b2.1, b2.2, c2.1, c2.2, d2.1, d2.2⟩
   ·refine .inl ⟨(⟨cs, f0, i0⟩, s), by simp [hlt], ⟨by (try simp only []); omega, q4, q3.up (by omega), fr2.1, fr2.2, hinm⟩, q7.up (by (try simp only []); omega)⟩) (0, ⟨[], fr, ins⟩, ⟨s0.L, s0.at_ + 1 + 1⟩)
  ⟨⟨0, rfl, by omega, by simp, ⟨[], rfl, fun m h => by simp at h, by simp, by simp⟩⟩, by simp, rfl, rfl, hs.one.one.up (by (try simp only []); omega)⟩
 obtain ⟨t, s'⟩ := e;refine ⟨s', t, ?_, h2.1, h2.2⟩;simp only [inss] at hins;simp only [uF9, e1, Option.bind_some, e2, hins, h1]

theorem pre_all : (List.range 5).all (fun i => uF170 (PX i) == some true) = true := by kernel_rfl
theorem pre_ok {j : Nat} (h : j < 5) : uF170 (PX j) = some true := by simpa using List.all_eq_true.1 pre_all j (List.mem_range.2 h)
theorem key_all : nms.all (fun n => uF69 n == some true) = true := by kernel_rfl
theorem key_ok {n : List UInt8} (h : n ∈ nms) : uF69 n = some true := by simpa using List.all_eq_true.1 key_all n h
theorem less_all : (List.range 5).all (fun i => (List.range i).all fun j => !(Op.bytesLess (PX i) (PX j) || PX i == PX j)) = true := by kernel_rfl
theorem less_no {i j : Nat} (h : j < i) (hi : i < 5) : (Op.bytesLess (PX i) (PX j) || PX i == PX j) = false := by
 have := List.all_eq_true.1 (List.all_eq_true.1 less_all i (List.mem_range.2 hi)) j (List.mem_range.2 h)
 simpa using this
theorem within_is (n lo hi : Int) : uF120 n lo hi = some (decide (n ≥ lo) && decide (n ≤ hi)) := rfl
theorem within_ok {n lo hi : Int} (h1 : lo ≤ n) (h2 : n ≤ hi) : uF120 n lo hi = some true := by simp [within_is, h1, h2]
theorem Srt.two {cs : List uT4} (h : Srt cs 5) {a b : Nat} (hab : a < b) (hb : b < cs.length) : ∃ i j, i < j ∧ j < 5 ∧ (cs[a]'(by omega)).Prefix = PX i ∧ cs[b].Prefix = PX j := by
 obtain ⟨js, h1, h2, h3, h4⟩ := h;obtain ⟨i, p1, p2⟩ := h2 a (by omega);obtain ⟨j, q1, q2⟩ := h2 b hb;have ha' : a < js.length := by omega
 have hb' : b < js.length := by omega
 rw [List.getElem?_eq_getElem ha'] at p1;rw [List.getElem?_eq_getElem hb'] at q1
 have := List.pairwise_iff_getElem.1 h4 a b ha' hb' hab
 obtain rfl := Option.some.inj p1;obtain rfl := Option.some.inj q1;exact ⟨_, _, this, h3 _ (List.getElem_mem hb'), p2, q2⟩
theorem Srt.one {cs : List uT4} (h : Srt cs 5) {a : Nat} (ha : a < cs.length) : ∃ i, i < 5 ∧ cs[a].Prefix = PX i := by
 obtain ⟨js, h1, h2, h3, h4⟩ := h;obtain ⟨i, p1, p2⟩ := h2 a ha;exact ⟨i, h3 _ (List.mem_of_getElem? p1), p2⟩

theorem inside_is (cs : List uT4) (fr : Int) (l : List (List UInt8)) (h : l ∈ inss) : loopO (fun s : Int => uF115 ⟨cs, fr, l⟩ s) 0 = some (.inl ()) ∧ l.length ≤ 2 := by
 have k1 : uF69 [104, 111, 109, 101] = some true := key_ok (by simp [nms]);have k2 : uF69 [110, 101, 97, 114] = some true := key_ok (by simp [nms]);have k3 : Op.bytesLess ([110, 101, 97, 114] : List UInt8) [104, 111, 109, 101] = false := by kernel_rfl
 simp only [inss, List.mem_cons, List.not_mem_nil, or_false] at h;rcases h with rfl | rfl | rfl
 ·refine ⟨?_, by simp⟩
  have := loop_for (N := 0) (step := fun s : Int => uF115 ⟨cs, fr, []⟩ s) (fun k => (k : Int)) (.inl ()) (fun k hk => by omega) (by simp [uF115])
  simpa using this
 ·refine ⟨?_, by simp⟩
  have := loop_for (N := 1) (step := fun s : Int => uF115 ⟨cs, fr, [[104, 111, 109, 101]]⟩ s) (fun k => (k : Int)) (.inl ()) (fun k hk => by
   obtain rfl : k = 0 := by omega
   simp [uF115, idx, k1, w64]) (by simp [uF115])
  simpa using this
 ·refine ⟨?_, by simp⟩
  have := loop_for (N := 2) (step := fun s : Int => uF115 ⟨cs, fr, [[104, 111, 109, 101], [110, 101, 97, 114]]⟩ s) (fun k => (k : Int)) (.inl ()) (fun k hk => by
   rcases (by omega : k = 0 ∨ k = 1) with rfl | rfl
   ·simp [uF115, idx, k1, w64]
   ·simp [uF115, idx, k2, w64]
    rw [k3]; rfl) (by simp [uF115])
  simpa using this
theorem checkT_is (t : uT6) (h : TGood t) : uF115b t = some 0 := by
 obtain ⟨cs, fr, ins⟩ := t;obtain ⟨h1, h2, h3, h4, h5, h6⟩ := h;simp only [] at h1 h2 h3 h4 h5 h6;obtain ⟨i1, i2⟩ := inside_is cs fr ins h6;have hl : loopO (fun s : Int => uF115a ⟨cs, fr, ins⟩ s) 0 = some (.inl ()) := by
  have := loop_for (N := cs.length) (step := fun s : Int => uF115a ⟨cs, fr, ins⟩ s) (fun k => (k : Int)) (.inl ()) (fun k hk => by
   obtain ⟨c1, c2, c3, c4, c5, c6, c7, c8, c9⟩ := h2 _ (List.getElem_mem hk);obtain ⟨j, hj, hpx⟩ := h3.one hk;have prev : (bif (decide ((k : Int) > ((0 : Int)))) then ((idx cs ((IntKind.wrap .i64 ((k : Int) - ((1 : Int)))))).bind fun y147 => some ((Op.bytesLess cs[k].Prefix y147.Prefix || cs[k].Prefix == y147.Prefix))) else (some false)) = some false := by
    by_cases h0 : k = 0
    ·subst h0; simp
    ·have e : IntKind.wrap .i64 ((k : Int) - 1) = ((k - 1 : Nat) : Int) := by rw [w64 (by omega) (by omega)]; omega
     obtain ⟨a, b, hab, hb, e1, e2⟩ := h3.two (a := k - 1) (b := k) (by omega) hk;have hpos : (decide ((k : Int) > 0)) = true := by simp; omega
     rw [hpos, e, idx_at (by omega : k - 1 < cs.length)];simp only [cond_true, Option.bind_some, e1, e2, less_no hab hb]
   simp only [uF115a];have hlt : (decide ((k : Int) < (cs.length : Int))) = true := by simp; exact hk
   rw [hlt, idx_at hk];simp only [cond_true, Option.bind_some, Bool.not_true, cond_false];rw [show uF170 cs[k].Prefix = some true by rw [hpx]; exact pre_ok hj, key_ok c1, within_ok c2 (by omega)];simp only [cond_true, Option.bind_some, Bool.not_true, cond_false];rw [within_ok c8 (by omega)];simp only [cond_true, Option.bind_some, Bool.not_true, cond_false];rw [within_ok c4 (by omega)];simp only [cond_true, Option.bind_some, Bool.not_true, cond_false];rw [within_ok c6 (by omega)];simp only [cond_true, Option.bind_some, Bool.not_true, cond_false];rw [prev];simp only [Option.bind_some, cond_false];rw [w64 (by omega) (by omega)];rfl) (by simp [uF115a])
  simpa using this
 have n1 : (decide ((cs.length : Int) > 200)) = false := by simp; omega
 have n2 : (decide ((ins.length : Int) > 200)) = false := by simp; omega
 simp only [uF115b, n1, n2, hl, i1, lret, cond_false, within_ok h4 (show fr ≤ 2592000000 by omega), Option.bind_some, Bool.not_true]

def cost (c : uT4) (talk : Int) : Int := c.Setup + c.Rate * (((if talk - c.First > 0 then talk - c.First else 0) + c.Step - 1) / c.Step)
theorem price_is (c : uT4) (h : CGood c) (talk : Int) (h1 : 1 ≤ talk) (h2 : talk ≤ 86400000) : uF121 c talk = some (cost c talk) := by
 obtain ⟨c1, c2, c3, c4, c5, c6, c7, c8, c9⟩ := h;have e0 : (talk == (0 : Int)) = false := by simp; omega
 have e1 : IntKind.wrap .i64 (talk - c.First) = talk - c.First := w64 (by omega) (by omega);simp only [uF121, e0, cond_false, e1, gmax];generalize ho : (if talk - c.First > 0 then talk - c.First else 0) = o;have o1 : 0 ≤ o ∧ o ≤ 86400000 := by subst ho; split <;> omega
 rw [w64 (n := o + c.Step) (by omega) (by omega), w64 (n := o + c.Step - 1) (by omega) (by omega)];have hs : ¬ c.Step = 0 := by omega
 have q0 : 0 ≤ (o + c.Step - 1) / c.Step := Int.ediv_nonneg (by omega) (by omega);have q1 : (o + c.Step - 1) / c.Step ≤ o + c.Step - 1 := Int.ediv_le_self _ (by omega);have eq : (o + c.Step - 1).tdiv c.Step = (o + c.Step - 1) / c.Step := Int.tdiv_eq_ediv_of_nonneg (by omega);have r1 : 0 ≤ c.Rate * ((o + c.Step - 1) / c.Step) := Int.mul_nonneg c8 q0;have r2 : c.Rate * ((o + c.Step - 1) / c.Step) ≤ 500 * 87000000 := Int.mul_le_mul c9 (by omega) q0 (by omega);simp only [gquo, hs, if_false, Option.bind_some, bnd, eq];rw [w64 (n := (o + c.Step - 1) / c.Step) (by omega) (by omega), w64 (n := c.Rate * _) (by omega) (by omega), w64 (by omega) (by omega)];simp only [cost, ho]
theorem wu64 {n : Int} (h1 : 0 ≤ n) (h2 : n ≤ 1000) : IntKind.wrap .u64 n = n := by unfold IntKind.wrap; simp [IntKind.signed, IntKind.bits]; omega
theorem mid_is {i j : Int} (h0 : 0 ≤ i) (h1 : i < j) (h2 : j ≤ 5) : IntKind.wrap .i64 (Int.fdiv (IntKind.wrap .u64 (IntKind.wrap .i64 (i + j))) (2 ^ 1)) = (i + j) / 2 := by
 rw [w64 (n := i + j) (by omega) (by omega), wu64 (by omega) (by omega)];have : Int.fdiv (i + j) (2 ^ 1) = (i + j) / 2 := by rw [Int.fdiv_eq_ediv_of_nonneg _ (by decide)]; rfl
 rw [this, w64 (by omega) (by omega)]
theorem sub_take {n : List UInt8} {k : Nat} (h : k ≤ n.length) : sub n 0 (k : Int) = some (n.take k) := by
 have h1 : (0 : Int) ≤ k := by omega
 have h2 : (k : Int) ≤ n.length := by omega
 simp [sub, h2, h1]

theorem search_is (cs : List uT4) (hl : cs.length ≤ 5) (k : List UInt8) : ∃ i b, uF117 cs k (fun a0 a1 => uF118 a0 a1) = some (i, b) ∧ (b = true → ∃ c, idx cs i = some c ∧ c ∈ cs) := by
 have tt : ∀ c : uT4, ∃ n, uF118 c k = some n := fun c => ⟨_, rfl⟩;obtain ⟨e, h1, h2, h3⟩ := loopO_ind (step := fun s : Int × Int => uF117a cs k (fun a0 a1 => uF118 a0 a1) s.1 s.2) (fun q => 0 ≤ q.1 ∧ q.1 ≤ q.2 ∧ q.2 ≤ cs.length)
  (fun e => 0 ≤ e ∧ e ≤ cs.length) (fun q => (q.2 - q.1).toNat) (fun q hq => by
   obtain ⟨i, j⟩ := q;obtain ⟨q0, q1, q2⟩ := hq;simp only [] at q0 q1 q2;simp only [uF117a];by_cases hlt : i < j
   ·obtain ⟨x, hx, _⟩ := idx_of (l := cs) (n := (i + j) / 2) (by omega) (by omega)
    obtain ⟨n, hn⟩ := tt x;simp only [hlt, decide_true, cond_true, mid_is q0 hlt (by omega), bnd, hx, Option.bind_some, hn];cases decide (n < 0) with
    | true =>
     simp only [cond_true];rw [w64 (by omega) (by omega)];exact .inr ⟨_, rfl, ⟨by (try simp only []); omega, by (try simp only []); omega, by (try simp only []); omega⟩, by (try simp only []); omega⟩
    | false =>
     simp only [cond_false];exact .inr ⟨_, rfl, ⟨by (try simp only []); omega, by (try simp only []); omega, by (try simp only []); omega⟩, by (try simp only []); omega⟩
   ·exact .inl ⟨i, by simp [hlt], q0, by omega⟩) (0, (cs.length : Int)) ⟨by simp, by simp, by simp⟩
 simp only [uF117, bnd, h1, Option.bind_some];by_cases hlt : e < (cs.length : Int)
 ·obtain ⟨x, hx, hm⟩ := idx_of (l := cs) h2 hlt
  obtain ⟨n, hn⟩ := tt x;simp only [hlt, decide_true, cond_true, hx, Option.bind_some, hn];exact ⟨e, _, rfl, fun _ => ⟨x, hx, hm⟩⟩
 ·simp only [hlt, decide_false, cond_false, Option.bind_some]
  exact ⟨e, _, rfl, fun h => by simp at h⟩
theorem class_is (t : uT6) (h : TGood t) (n : List UInt8) (hn : n.length ≤ 1000) : ∃ c b, uF56 t n = some (c, b) ∧ (b = true → c ∈ t.Classes) := by
 obtain ⟨e, h1, h2⟩ := loopO_ind (step := fun s : Int × uT4 => uF56a t n s.1 s.2) (fun q => -1 ≤ q.1 ∧ q.1 ≤ n.length)
  (fun e => match e with
   | .inl _ => True
   | .inr r => r.2 = true ∧ r.1 ∈ t.Classes) (fun q => (q.1 + 1).toNat) (fun q hq => by
   obtain ⟨k, c⟩ := q;obtain ⟨q0, q1⟩ := hq;simp only [] at q0 q1;simp only [uF56a];by_cases hk : k ≥ 0
   ·obtain ⟨m, rfl⟩ := Int.eq_ofNat_of_zero_le hk
    obtain ⟨i, b, e1, e2⟩ := search_is t.Classes h.1 (n.take m);simp only [hk, decide_true, cond_true, sub_take (n := n) (k := m) (by omega), Option.bind_some, e1];cases b with
    | true =>
     obtain ⟨x, hx, hm⟩ := e2 rfl;simp only [cond_true, hx, Option.bind_some];exact .inl ⟨_, rfl, rfl, hm⟩
    | false =>
     simp only [cond_false, bnd];rw [w64 (by omega) (by omega)];exact .inr ⟨_, rfl, ⟨by (try simp only []); omega, by (try simp only []); omega⟩, by (try simp only []); omega⟩
   ·exact .inl ⟨.inl c, by simp [hk], trivial⟩) ((n.length : Int), ⟨[], [], 0, 0, 0, 0⟩) ⟨by simp only []; omega, by simp⟩
 simp only [uF56, bnd, h1, lret];match e, h2 with
 | .inl _, _ => exact ⟨_, _, rfl, fun h => by simp at h⟩
 | .inr r, h2 => exact ⟨r.1, r.2, rfl, fun _ => h2.2⟩

/-! Payers. -/
def PY : List uT7 := [⟨[97, 110, 110], [[43, 49, 50, 48, 48], [43, 49, 50, 48, 50]]⟩, ⟨[98, 111, 98], [[43, 49, 50, 48, 49]]⟩, ⟨[99, 105, 100], []⟩]
def MM : List (List (List UInt8 × Bool)) := [[], [([43, 49, 50, 48, 48], true), ([43, 49, 50, 48, 50], true)], [([43, 49, 50, 48, 48], true), ([43, 49, 50, 48, 50], true), ([43, 49, 50, 48, 49], true)], [([43, 49, 50, 48, 48], true), ([43, 49, 50, 48, 50], true), ([43, 49, 50, 48, 49], true)]]
def OO : List (List (List UInt8 × List UInt8)) := [[], [([43, 49, 50, 48, 48], [97, 110, 110]), ([43, 49, 50, 48, 50], [97, 110, 110])], [([43, 49, 50, 48, 48], [97, 110, 110]), ([43, 49, 50, 48, 50], [97, 110, 110]), ([43, 49, 50, 48, 49], [98, 111, 98])], [([43, 49, 50, 48, 48], [97, 110, 110]), ([43, 49, 50, 48, 50], [97, 110, 110]), ([43, 49, 50, 48, 49], [98, 111, 98])]]
def PK (k : Nat) : uT7 := PY.getD k ⟨[], []⟩
def MK (k : Nat) : List (List UInt8 × Bool) := MM.getD k []
def OK (k : Nat) : List (List UInt8 × List UInt8) := OO.getD k []
theorem payers_is (s : uT0) (k : Int) (hs : SOk s k) (hk : k ≤ 1000) : ∃ m, 1 ≤ m ∧ m ≤ 3 ∧ uF10 s = some (⟨s.L, s.at_ + 1⟩, PY.take m) := by
 obtain ⟨r, e, r1⟩ := pick_in s [1, 2, 3, 3] _ hs (by omega) (by simp) (by simp);simp only [List.mem_cons, List.not_mem_nil, or_false] at r1;obtain ⟨m, rfl, m1, m2⟩ : ∃ m : Nat, r = m ∧ 1 ≤ m ∧ m ≤ 3 := ⟨r.toNat, by omega, by omega, by omega⟩;refine ⟨m, m1, m2, ?_⟩;simp only [uF10, e, Option.bind_some];rcases (by omega : m = 1 ∨ m = 2 ∨ m = 3) with rfl | rfl | rfl <;> rfl
theorem in_0 : loopO (fun s : List (List UInt8 × Bool) × Int => uF67a (PK 0) s.1 s.2) (MK 0, 0) = some (.inl (MK 1)) := loopO_of (n := 5) (by kernel_rfl)
theorem in_1 : loopO (fun s : List (List UInt8 × Bool) × Int => uF67a (PK 1) s.1 s.2) (MK 1, 0) = some (.inl (MK 2)) := loopO_of (n := 5) (by kernel_rfl)
theorem in_2 : loopO (fun s : List (List UInt8 × Bool) × Int => uF67a (PK 2) s.1 s.2) (MK 2, 0) = some (.inl (MK 3)) := loopO_of (n := 5) (by kernel_rfl)
theorem in_is {k : Nat} (hk : k < 3) : loopO (fun s : List (List UInt8 × Bool) × Int => uF67a (PK k) s.1 s.2) (MK k, 0) = some (.inl (MK (k + 1))) := by
 rcases (by omega : k = 0 ∨ k = 1 ∨ k = 2) with rfl | rfl | rfl
 ·exact in_0
 ·exact in_1
 ·exact in_2
theorem ow_0 : loopO (fun s : List (List UInt8 × List UInt8) × Int => uF55a (PK 0) s.1 s.2) (OK 0, 0) = some (OK 1) := loopO_of (n := 5) (by kernel_rfl)
theorem ow_1 : loopO (fun s : List (List UInt8 × List UInt8) × Int => uF55a (PK 1) s.1 s.2) (OK 1, 0) = some (OK 2) := loopO_of (n := 5) (by kernel_rfl)
theorem ow_2 : loopO (fun s : List (List UInt8 × List UInt8) × Int => uF55a (PK 2) s.1 s.2) (OK 2, 0) = some (OK 3) := loopO_of (n := 5) (by kernel_rfl)
theorem ow_is {k : Nat} (hk : k < 3) : loopO (fun s : List (List UInt8 × List UInt8) × Int => uF55a (PK k) s.1 s.2) (OK k, 0) = some (OK (k + 1)) := by
 rcases (by omega : k = 0 ∨ k = 1 ∨ k = 2) with rfl | rfl | rfl
 ·exact ow_0
 ·exact ow_1
 ·exact ow_2
theorem py_len {m : Nat} (h : m ≤ 3) : (PY.take m).length = m := by simp [PY]; omega
theorem py_idx {m k : Nat} (h : m ≤ 3) (hk : k < m) : idx (PY.take m) (k : Int) = some (PK k) := by
 rw [idx_nat, List.getElem?_take_of_lt hk];rcases (by omega : k = 0 ∨ k = 1 ∨ k = 2) with rfl | rfl | rfl <;> rfl
theorem pk_all : (List.range 3).all (fun k => uF69 (PK k).Key == some true && decide ((PK k).Numbers.length ≤ 500) && (List.range k).all fun j => !(Op.bytesLess (PK k).Key (PK j).Key || (PK k).Key == (PK j).Key)) = true := by kernel_rfl
theorem payers_ok {m : Nat} (h : m ≤ 3) : uF67b (PY.take m) = some 0 := by
 have hl := py_len h;have hc : decide ((List.length (PY.take m) : Int) > 500) = false := by rw [hl]; simp; omega
 have := loop_for (N := m) (step := fun s : List (List UInt8 × Bool) × Int => uF67 (PY.take m) s.1 s.2) (fun k => (MK k, (k : Int))) (.inl ()) (fun k hk => by
  have hd : decide ((k : Int) < (List.length (PY.take m) : Int)) = true := by rw [hl]; simp; omega
  have hz := List.all_eq_true.1 pk_all k (List.mem_range.2 (by omega));rw [Bool.and_eq_true, Bool.and_eq_true, beq_iff_eq, decide_eq_true_eq] at hz;obtain ⟨⟨z1, z2⟩, z3⟩ := hz;have z4 : decide ((List.length (PK k).Numbers : Int) > 500) = false := by simp; omega
  have z5 : (bif decide ((k : Int) > 0) then (idx (PY.take m) (IntKind.wrap .i64 ((k : Int) - 1))).bind fun y65 => some (Op.bytesLess (PK k).Key y65.Key || (PK k).Key == y65.Key) else some false) = some false := by
   by_cases h0 : 0 < k
   ·have w1 : IntKind.wrap .i64 ((k : Int) - 1) = ((k - 1 : Nat) : Int) := by rw [w64 (by omega) (by omega)]; omega
    have d0 : decide ((k : Int) > 0) = true := by simpa using h0
    have := List.all_eq_true.1 z3 (k - 1) (List.mem_range.2 (by omega))
    simp only [d0, cond_true, w1, py_idx h (by omega : k - 1 < m), Option.bind_some];rw [Bool.not_eq_true'] at this;rw [this]
   ·have d0 : decide ((k : Int) > 0) = false := by simp; omega
    simp only [d0, cond_false]
  simp only [uF67, hd, cond_true, py_idx h hk, Option.bind_some, z1, Bool.not_true, cond_false, z5, bnd, z4, in_is (by omega : k < 3), lret];rw [w64 (by omega) (by omega)]; rfl) (by
  have hd : decide ((m : Int) < (List.length (PY.take m) : Int)) = false := by rw [hl]; simp
  simp only [uF67, hd, cond_false])
 have this' : loopO (fun s : List (List UInt8 × Bool) × Int => uF67 (PY.take m) s.1 s.2) ([], 0) = some (.inl ()) := this;simp only [uF67b, hc, cond_false, this', lret]
theorem owners_is {m : Nat} (h : m ≤ 3) : uF55b (PY.take m) = some (OK m) := by
 have hl := py_len h
 have := loop_for (N := m) (step := fun s : List (List UInt8 × List UInt8) × Int => uF55 (PY.take m) s.1 s.2) (fun k => (OK k, (k : Int))) (OK m) (fun k hk => by
  have hd : decide ((k : Int) < (List.length (PY.take m) : Int)) = true := by rw [hl]; simp; omega
  simp only [uF55, hd, cond_true, py_idx h hk, Option.bind_some, ow_is (by omega : k < 3)];rw [w64 (by omega) (by omega)]; rfl) (by
  have hd : decide ((m : Int) < (List.length (PY.take m) : Int)) = false := by rw [hl]; simp
  simp only [uF55, hd, cond_false])
 have this' : loopO (fun s : List (List UInt8 × List UInt8) × Int => uF55 (PY.take m) s.1 s.2) ([], 0) = some (OK m) := this;simp only [uF55b, this', Option.bind_some]
theorem owner_key {m : Nat} (h1 : 1 ≤ m) (h : m ≤ 3) {n k : List UInt8} (hk : mget (OK m) n = some k) : k ∈ (PY.take m).map (·.Key) := by
 have key : ∀ (o : List (List UInt8 × List UInt8)), mget o n = some k → k ∈ o.map (·.2) := by
  intro o;induction o with
  | nil => intro h; cases h
  | cons a o ih =>
   obtain ⟨a, b⟩ := a;intro h;simp only [mget] at h;split at h
   ·cases h; simp
   ·exact List.mem_cons_of_mem _ (ih h)
 have := key _ hk
 rcases (by omega : m = 1 ∨ m = 2 ∨ m = 3) with rfl | rfl | rfl
 ·have h2 : (OK 1).map (·.2) = [[97, 110, 110], [97, 110, 110]] := rfl
  rw [h2] at this;have h3 : (PY.take 1).map (·.Key) = [[97, 110, 110]] := rfl;rw [h3]; simp at this ⊢; exact this
 ·have h2 : (OK 2).map (·.2) = [[97, 110, 110], [97, 110, 110], [98, 111, 98]] := rfl
  rw [h2] at this;have h3 : (PY.take 2).map (·.Key) = [[97, 110, 110], [98, 111, 98]] := rfl;rw [h3]; simp at this ⊢; exact this
 ·have h2 : (OK 3).map (·.2) = [[97, 110, 110], [97, 110, 110], [98, 111, 98]] := rfl
  rw [h2] at this;have h3 : (PY.take 3).map (·.Key) = [[97, 110, 110], [98, 111, 98], [99, 105, 100]] := rfl;rw [h3]; simp at this ⊢; rcases this with h | h
  ·exact .inl h
  ·exact .inr (.inl h)
/-! Classes of records; prices. -/
noncomputable def cl (t : uT6) (n : List UInt8) : uT4 × Bool := (uF56 t n).getD (⟨[], [], 0, 0, 0, 0⟩, false)
theorem cl_is {t : uT6} (h : TGood t) {n : List UInt8} (hn : n.length ≤ 1000) : uF56 t n = some (cl t n) ∧ ((cl t n).2 = true → (cl t n).1 ∈ t.Classes) := by
 obtain ⟨c, b, e, hb⟩ := class_is t h n hn;have : cl t n = (c, b) := by unfold cl; rw [e]; rfl
 rw [this];exact ⟨e, hb⟩
def kn (m : Nat) (r : uT1) : Bool := (mget (OK m) r.From).isSome
noncomputable def ch (t : uT6) (m : Nat) (r : uT1) : Bool := kn m r && (cl t r.To).2
theorem ph_len : PH.all (fun s => decide (s.length ≤ 1000)) = true := by decide
theorem to_len {r : uT1} (h : RInv r) : r.To.length ≤ 1000 := by simpa using List.all_eq_true.1 ph_len _ h.2.2.1
theorem price_le (c : uT4) (h : CGood c) (talk : Int) (h1 : 0 ≤ talk) (h2 : talk ≤ 86400000) : ∃ v, uF121 c talk = some v ∧ 0 ≤ v ∧ v ≤ 50000000000 := by
 by_cases h0 : talk = 0
 ·subst h0; exact ⟨0, rfl, by omega, by omega⟩
 ·refine ⟨_, price_is c h talk (by omega) h2, ?_⟩
  obtain ⟨c1, c2, c3, c4, c5, c6, c7, c8, c9⟩ := h;unfold cost;generalize ho : (if talk - c.First > 0 then talk - c.First else 0) = o;have o1 : 0 ≤ o ∧ o ≤ 86400000 := by subst ho; split <;> omega
  have q0 : 0 ≤ (o + c.Step - 1) / c.Step := Int.ediv_nonneg (by omega) (by omega);have q1 : (o + c.Step - 1) / c.Step ≤ o + c.Step - 1 := Int.ediv_le_self _ (by omega);have r1 : 0 ≤ c.Rate * ((o + c.Step - 1) / c.Step) := Int.mul_nonneg c8 q0;have r2 : c.Rate * ((o + c.Step - 1) / c.Step) ≤ 500 * 87000000 := Int.mul_le_mul c9 (by omega) q0 (by omega);omega


/-! Watches. -/
def cxs : List (List UInt8) := [[], [102, 97, 114], [104, 111, 109, 101], [110, 101, 97, 114]]
def CX (i : Nat) : List UInt8 := cxs.getD i []
def Wrt (cs : List uT3) (top : Nat) : Prop := ∃ js : List Nat, js.length = cs.length ∧ (∀ m (h : m < cs.length), ∃ j, js[m]? = some j ∧ cs[m].Class = CX j) ∧ (∀ j ∈ js, j < top) ∧ js.Pairwise (· < ·)
theorem Wrt.add {cs : List uT3} {n : Nat} (h : Wrt cs n) {c : uT3} (hc : c.Class = CX n) : Wrt (cs ++ [c]) (n + 1) := by
 obtain ⟨js, h1, h2, h3, h4⟩ := h;refine ⟨js ++ [n], by simp [h1], fun m hm => ?_, fun j hj => ?_, ?_⟩
 ·simp at hm
  by_cases e : m < cs.length
  ·obtain ⟨j, p1, p2⟩ := h2 m e
   exact ⟨j, by rw [List.getElem?_append_left (by omega), p1], by rw [List.getElem_append_left e, p2]⟩
  ·have e2 : m = cs.length := by omega
   subst e2;exact ⟨n, by simp [← h1], by simp [hc]⟩
 ·rcases List.mem_append.1 hj with hj | hj
  ·have := h3 j hj; omega
  ·simp at hj; omega
 ·rw [List.pairwise_append]
  exact ⟨h4, by simp, fun x hx y hy => by simp at hy; have := h3 x hx; omega⟩
theorem Wrt.up {cs : List uT3} {n m : Nat} (h : Wrt cs n) (e : n ≤ m) : Wrt cs m := by
 obtain ⟨js, h1, h2, h3, h4⟩ := h;exact ⟨js, h1, h2, fun j hj => Nat.lt_of_lt_of_le (h3 j hj) e, h4⟩

theorem Wrt.two {cs : List uT3} (h : Wrt cs 4) {a b : Nat} (hab : a < b) (hb : b < cs.length) : ∃ i j, i < j ∧ j < 4 ∧ (cs[a]'(by omega)).Class = CX i ∧ cs[b].Class = CX j := by
 obtain ⟨js, h1, h2, h3, h4⟩ := h;obtain ⟨i, p1, p2⟩ := h2 a (by omega);obtain ⟨j, q1, q2⟩ := h2 b hb;have ha' : a < js.length := by omega
 have hb' : b < js.length := by omega
 rw [List.getElem?_eq_getElem ha'] at p1;rw [List.getElem?_eq_getElem hb'] at q1
 have := List.pairwise_iff_getElem.1 h4 a b ha' hb' hab
 obtain rfl := Option.some.inj p1;obtain rfl := Option.some.inj q1;exact ⟨_, _, this, h3 _ (List.getElem_mem hb'), p2, q2⟩
theorem Wrt.one {cs : List uT3} (h : Wrt cs 4) {a : Nat} (ha : a < cs.length) : ∃ i, i < 4 ∧ cs[a].Class = CX i := by
 obtain ⟨js, h1, h2, h3, h4⟩ := h;obtain ⟨i, p1, p2⟩ := h2 a ha;exact ⟨i, h3 _ (List.mem_of_getElem? p1), p2⟩


def WOk (w : uT3) : Prop := 1 ≤ w.Window ∧ w.Window ≤ 2592000000 ∧ 1 ≤ w.Block ∧ w.Block ≤ 100000 ∧ 0 ≤ w.Calls ∧ w.Calls ≤ 3000 ∧ 0 ≤ w.Cents ∧ w.Cents ≤ 1000000000000
def WGood (l : List uT3) : Prop := l.length ≤ 4 ∧ (∀ w ∈ l, WOk w) ∧ Wrt l 4
theorem watches_is (s0 : uT0) (k : Int) (hs : SOk s0 k) (hk : k ≤ 500) : ∃ s' l, uF20 s0 = some (s', l) ∧ WGood l ∧ SOk s' (k + 20) := by
 obtain ⟨e, h1, h2, h3⟩ := loopO_ind (step := fun s : List uT3 × Int × uT0 => uF20a s.1 s.2.1 s.2.2)
  (fun q => 0 ≤ q.2.1 ∧ q.2.1 ≤ 4 ∧ (q.1.length : Int) ≤ q.2.1 ∧ (∀ w ∈ q.1, WOk w) ∧ Wrt q.1 q.2.1.toNat ∧ SOk q.2.2 (k + 5 * q.2.1))
  (fun e => WGood e.1 ∧ SOk e.2 (k + 20)) (fun q => (4 - q.2.1).toNat) (fun q hq => by
   obtain ⟨l, n, s⟩ := q;obtain ⟨q0, q1, q2, q3, q4, q5⟩ := hq;simp only [] at q0 q1 q2 q3 q4 q5;obtain ⟨i, rfl⟩ := Int.eq_ofNat_of_zero_le q0;simp only [Int.toNat_natCast] at q4;simp only [uF20a];rw [show ([[], [102, 97, 114], [104, 111, 109, 101], [110, 101, 97, 114]] : List (List UInt8)) = cxs from rfl];have hc : (List.length cxs : Int) = 4 := rfl;have ti : ((i : Int) + 1).toNat = i + 1 := by omega
   have wi : IntKind.wrap .i64 ((i : Int) + 1) = (i : Int) + 1 := w64 (by omega) (by omega);by_cases hlt : (i : Int) < 4
   ·have hi : idx cxs (i : Int) = some (CX i) := by
     rw [idx_nat];rcases (by omega : i = 0 ∨ i = 1 ∨ i = 2 ∨ i = 3) with rfl | rfl | rfl | rfl <;> rfl
    obtain ⟨b, e1⟩ := flip_is s 2 _ q5 (by omega) (by omega) (by omega);have h1 := q5.one;simp only [hc, hlt, decide_true, cond_true, hi, Option.bind_some, e1, wi];cases b with
    | false =>
     simp only [cond_false];exact .inr ⟨_, rfl, ⟨by (try simp only []); omega, by (try simp only []); omega, by (try simp only []); omega, q3, by simp only [ti]; exact q4.up (by omega), h1.up (by (try simp only []); omega)⟩, by (try simp only []); omega⟩
    | true =>
     obtain ⟨a, e2, a1⟩ := pick_in ⟨s.L, s.at_ + 1⟩ [100, 1000, 60000, 2592000000] _ h1 (by omega) (by simp) (by simp);have h2 := h1.one;obtain ⟨c, e3, c1⟩ := pick_in ⟨s.L, s.at_ + 1 + 1⟩ [0, 1, 2, 3000] _ h2 (by omega) (by simp) (by simp);have h3 := h2.one;obtain ⟨d, e4, d1⟩ := pick_in ⟨s.L, s.at_ + 1 + 1 + 1⟩ [0, 1, 2, 1000] _ h3 (by omega) (by simp) (by simp);have h4 := h3.one;obtain ⟨f, e5, f1⟩ := pick_in ⟨s.L, s.at_ + 1 + 1 + 1 + 1⟩ [50, 1000, 100000] _ h4 (by omega) (by simp) (by simp);have h5 := h4.one;simp at a1 c1 d1 f1;simp only [cond_true, e2, e3, e4, e5, Option.bind_some];rw [app_of (by simp; omega) (by simp; omega)];simp only [Option.bind_some];refine .inr ⟨_, rfl, ⟨by (try simp only []); omega, by (try simp only []); omega, by simp; omega, ?_, by simp only [ti]; exact q4.add rfl, h5.up (by (try simp only []); omega)⟩, by (try simp only []); omega⟩;intro w hw;rcases List.mem_append.1 hw with hw | hw
     ·exact q3 w hw
     ·simp at hw; subst hw
      exact ⟨by (try simp only []); omega, by (try simp only []); omega, by (try simp only []); omega, by (try simp only []); omega, by (try simp only []); omega, by (try simp only []); omega, by (try simp only []); omega, by (try simp only []); omega⟩
   ·refine .inl ⟨(l, s), by simp only [hc, hlt, decide_false, cond_false], ⟨by (try simp only []); omega, q3, ?_⟩, q5.up (by (try simp only []); omega)⟩
    exact q4.up (by omega)) ([], 0, s0) ⟨by simp, by simp, by simp, by simp, ⟨[], by simp⟩, by simpa using hs⟩
 obtain ⟨l, s⟩ := e;refine ⟨s, l, ?_, h2, h3⟩;simp only [uF20, h1, Option.bind_some]
theorem ck_all : (List.range 4).all (fun i => (CX i == [] || uF69 (CX i) == some true) && (List.range i).all fun j => !(Op.bytesLess (CX i) (CX j))) = true := by kernel_rfl
theorem ck_is {i : Nat} (hi : i < 4) : (CX i = [] ∨ uF69 (CX i) = some true) ∧ ∀ j, j < i → Op.bytesLess (CX i) (CX j) = false := by
 have := List.all_eq_true.1 ck_all i (List.mem_range.2 hi)
 rw [Bool.and_eq_true, Bool.or_eq_true, beq_iff_eq, beq_iff_eq] at this;refine ⟨this.1, fun j hj => ?_⟩
 have := List.all_eq_true.1 this.2 j (List.mem_range.2 hj)
 simpa using this
theorem checkW_of (l : List uT3) (hl : l.length ≤ 4) (hok : ∀ w ∈ l, WOk w) (hc : ∀ w ∈ l, w.Class = [] ∨ uF69 w.Class = some true) (ho : ∀ (i : Nat) a b, l[i]? = some a → l[i + 1]? = some b → Op.bytesLess b.Class a.Class = false) : uF128 l = some 0 := by
 have := loop_for (N := l.length) (step := fun s : Int => uF128a l s) (fun k => (k : Int)) (.inl ()) (fun k hk => by
  have hd : decide ((k : Int) < (List.length l : Int)) = true := by simpa using hk
  obtain ⟨w1, w2, w3, w4, w5, w6, w7, w8⟩ := hok _ (List.getElem_mem hk);have m3 : (bif (!(l[k].Class == [])) then (uF69 l[k].Class).bind fun y46 => some (!y46) else some false) = some false := by
   rcases hc _ (List.getElem_mem hk) with h | h
   ·rw [h]; rfl
   ·rw [h]; cases (!(l[k].Class == [])) <;> rfl
  have m4 : (bif decide ((k : Int) > 0) then (idx l (IntKind.wrap .i64 ((k : Int) - 1))).bind fun y155 => some (Op.bytesLess l[k].Class y155.Class) else some false) = some false := by
   by_cases h0 : 0 < k
   ·have w1 : IntKind.wrap .i64 ((k : Int) - 1) = ((k - 1 : Nat) : Int) := by rw [w64 (by omega) (by omega)]; omega
    have d0 : decide ((k : Int) > 0) = true := by simpa using h0
    have hp : k - 1 < l.length := by omega
    have hb := ho (k - 1) l[k - 1] l[k] (by simp [hp]) (by rw [show k - 1 + 1 = k from by omega]; simp [hk]);simp only [d0, cond_true, w1, idx_at hp, Option.bind_some, hb]
   ·have d0 : decide ((k : Int) > 0) = false := by simp; omega
    simp only [d0, cond_false]
  have i1 : uF120 l[k].Window 1 2592000000 = some true := within_ok w1 w2;have i2 : uF120 l[k].Block 1 2592000000 = some true := within_ok w3 (by omega);have i3 : uF120 l[k].Calls 0 3000 = some true := within_ok w5 w6;have i4 : uF120 l[k].Cents 0 1000000000000 = some true := within_ok w7 w8;simp only [uF128a, hd, cond_true, idx_at hk, Option.bind_some, m3, cond_false, i1, i2, i3, i4, Bool.not_true, m4];rw [w64 (by omega) (by omega)]; rfl) (by simp [uF128a])
 have hc : decide ((List.length l : Int) > 50) = false := by simp; omega
 have this' : loopO (fun s : Int => uF128a l s) 0 = some (.inl ()) := this;simp only [uF128, hc, cond_false, this', lret]
theorem checkW_is {l : List uT3} (h : WGood l) : uF128 l = some 0 := by
 refine checkW_of l h.1 h.2.1 (fun w hw => ?_) fun i a b ha hb => ?_
 ·obtain ⟨i, hi, rfl⟩ := List.getElem_of_mem hw
  obtain ⟨j, hj, e⟩ := h.2.2.one hi;rw [e]; exact (ck_is hj).1
 ·obtain ⟨ha1, rfl⟩ := List.getElem?_eq_some_iff.1 ha
  obtain ⟨hb1, rfl⟩ := List.getElem?_eq_some_iff.1 hb;obtain ⟨p, q, h1, h2, h3, h4⟩ := h.2.2.two (by omega : i < i + 1) hb1;rw [h3, h4]; exact (ck_is h2).2 p h1

/-! Blocks. -/
def bl (l : List uT2) (p : List UInt8) (t : Int) : Bool := l.any fun b => (b.Payer == p && decide (b.From ≤ t)) && decide (t < b.To)
theorem blocked_is (l : List uT2) (p : List UInt8) (t : Int) (hl : l.length ≤ 1000) : uF71 l p t = some (bl l p t) := by
 have h : uF187 l (fun a => uF134 a p t) = some (idxI (fun b => (b.Payer == p && decide (b.From ≤ t)) && decide (t < b.To)) l) := idxF_loop l (fun a => uF134 a p t) _ (fun _ _ => rfl) (by omega);simp only [uF71, uF133, h, Option.bind_some, bnd, idxI_any];rfl
def COk (c : uT5) : Prop := 0 ≤ c.cost ∧ c.cost ≤ 50000000000 ∧ 0 ≤ c.at_ ∧ c.at_ ≤ 345686399999
theorem count1_is (c : uT5) (st : uT8) (w : uT3) (hl : st.counts.length ≤ 13) (hc : ∀ d ∈ st.counts, COk d) : ∃ n m, loopO (fun s : Int × Int × Int => uF129 c st w s.1 s.2.1 s.2.2) (0, 0, 0) = some (n, m) ∧ 0 ≤ n ∧ n ≤ 13 ∧ 0 ≤ m ∧ m ≤ 50000000000 * 13 := by
 obtain ⟨e, h1, h2⟩ := loopO_ind (step := fun s : Int × Int × Int => uF129 c st w s.1 s.2.1 s.2.2) (fun q => 0 ≤ q.2.2 ∧ q.2.2 ≤ st.counts.length ∧ 0 ≤ q.1 ∧ q.1 ≤ q.2.2 ∧ 0 ≤ q.2.1 ∧ q.2.1 ≤ 50000000000 * q.2.2)
  (fun e => 0 ≤ e.1 ∧ e.1 ≤ 13 ∧ 0 ≤ e.2 ∧ e.2 ≤ 50000000000 * 13) (fun q => (st.counts.length - q.2.2).toNat) (fun q hq => by
   obtain ⟨n, m, k⟩ := q;obtain ⟨q0, q1, q2, q3, q4, q5⟩ := hq;simp only [] at q0 q1 q2 q3 q4 q5;obtain ⟨i, rfl⟩ := Int.eq_ofNat_of_zero_le q0;simp only [uF129];by_cases hlt : i < st.counts.length
   ·have hd : decide ((i : Int) < (List.length st.counts : Int)) = true := by simpa using hlt
    obtain ⟨c1, c2, _⟩ := hc _ (List.getElem_mem hlt);simp only [hd, cond_true, idx_at hlt, Option.bind_some, bnd];cases ((st.counts[i].payer == c.payer && (w.Class == [] || st.counts[i].class_ == w.Class)) && decide (st.counts[i].at_ > IntKind.wrap .i64 (c.at_ - w.Window))) with
    | true =>
     simp only [cond_true];rw [w64 (by omega) (by omega), w64 (by omega) (by omega), w64 (by omega) (by omega)];exact .inr ⟨_, rfl, ⟨by (try simp only []); omega, by (try simp only []); omega, by (try simp only []); omega, by (try simp only []); omega, by (try simp only []); omega, by (try simp only []); omega⟩, by (try simp only []); omega⟩
    | false =>
     simp only [cond_false];rw [w64 (by omega) (by omega)];exact .inr ⟨_, rfl, ⟨by (try simp only []); omega, by (try simp only []); omega, by (try simp only []); omega, by (try simp only []); omega, by (try simp only []); omega, by (try simp only []); omega⟩, by (try simp only []); omega⟩
   ·have hd : decide ((i : Int) < (List.length st.counts : Int)) = false := by simp; omega
    exact .inl ⟨(n, m), by simp only [hd, cond_false], by (try simp only []); omega, by (try simp only []); omega, by (try simp only []); omega, by (try simp only []); omega⟩) (0, 0, 0) ⟨by simp, by simp, by simp, by simp, by simp, by simp⟩
 exact ⟨e.1, e.2, h1, h2.1, h2.2.1, h2.2.2.1, h2.2.2.2⟩
theorem count_is (st : uT8) (c : uT5) (hw : ∀ w ∈ st.w, WOk w) (hwl : st.w.length ≤ 4) (hl : st.counts.length ≤ 12) (hb : st.blocks.length ≤ 100) (hcs : ∀ d ∈ st.counts, COk d) (hc : COk c) :
  ∃ r, uF129a st c = some r ∧ r.w = st.w ∧ r.counts = st.counts ++ [c] ∧ (r.blocks = st.blocks ∨ ∃ (k : Nat) (w : uT3), st.w[k]? = some w ∧ r.blocks = st.blocks ++ [⟨c.payer, (k : Int), c.at_ + 1, c.at_ + 1 + w.Block⟩] ∧ (w.Calls < 13 ∨ w.Cents < 650000000)) := by
 obtain ⟨c1, c2, c3, c4⟩ := hc;have hcs' : ∀ d ∈ st.counts ++ [c], COk d := fun d hd => by
  rcases List.mem_append.1 hd with hd | hd
  ·exact hcs d hd
  ·simp at hd; subst hd; exact ⟨c1, c2, c3, c4⟩
 obtain ⟨e, h1, h2⟩ := loopO_ind (step := fun s : Int × uT8 => uF129b st c s.1 s.2) (fun q => 0 ≤ q.1 ∧ q.1 ≤ st.w.length ∧ q.2 = ⟨st.w, st.counts ++ [c], st.blocks⟩)
  (fun e => ∃ r : uT8, (e = .inl r ∨ e = .inr r) ∧ r.w = st.w ∧ r.counts = st.counts ++ [c] ∧ (r.blocks = st.blocks ∨ ∃ (k : Nat) (w : uT3), st.w[k]? = some w ∧ r.blocks = st.blocks ++ [⟨c.payer, (k : Int), c.at_ + 1, c.at_ + 1 + w.Block⟩] ∧ (w.Calls < 13 ∨ w.Cents < 650000000))) (fun q => (st.w.length - q.1).toNat) (fun q hq => by
   obtain ⟨n, s⟩ := q;obtain ⟨q0, q1, rfl⟩ := hq;simp only [] at q0 q1;obtain ⟨i, rfl⟩ := Int.eq_ofNat_of_zero_le q0;simp only [uF129b];by_cases hlt : i < st.w.length
   ·have hd : decide ((i : Int) < (List.length st.w : Int)) = true := by simpa using hlt
    have wi : IntKind.wrap .i64 ((i : Int) + 1) = (i : Int) + 1 := w64 (by omega) (by omega);obtain ⟨w1, w2, w3, w4, w5, w6, w7, w8⟩ := hw _ (List.getElem_mem hlt);obtain ⟨n, mm, e1, n1, n2, n3, n4⟩ := count1_is c ⟨st.w, st.counts ++ [c], st.blocks⟩ st.w[i] (by simp; omega) hcs';simp only [hd, cond_true, idx_at hlt, Option.bind_some, wi, e1];cases ((!(st.w[i].Class == [])) && (!(st.w[i].Class == c.class_))) with
    | true =>
     simp only [cond_true];exact .inr ⟨_, rfl, ⟨by (try simp only []); omega, by (try simp only []); omega, rfl⟩, by (try simp only []); omega⟩
    | false =>
     simp only [cond_false];rw [w64 (n := 1000 * st.w[i].Cents) (by omega) (by omega), w64 (n := c.at_ + 1) (by omega) (by omega), w64 (n := c.at_ + 1 + st.w[i].Block) (by omega) (by omega)];cases hq : (decide (n > st.w[i].Calls) || decide (mm > 1000 * st.w[i].Cents)) with
     | true =>
      simp only [cond_true];rw [app_of (by simp; omega) (by simp; omega)];simp only [Option.bind_some];refine .inl ⟨_, rfl, _, .inr rfl, rfl, rfl, .inr ⟨i, st.w[i], by simp [hlt], rfl, ?_⟩⟩;rw [Bool.or_eq_true, decide_eq_true_eq, decide_eq_true_eq] at hq;omega
     | false =>
      simp only [cond_false];exact .inr ⟨_, rfl, ⟨by (try simp only []); omega, by (try simp only []); omega, rfl⟩, by (try simp only []); omega⟩
   ·have hd : decide ((i : Int) < (List.length st.w : Int)) = false := by simp; omega
    exact .inl ⟨.inl ⟨st.w, st.counts ++ [c], st.blocks⟩, by simp only [hd, cond_false], _, .inl rfl, rfl, rfl, .inl rfl⟩) (0, ⟨st.w, st.counts ++ [c], st.blocks⟩) ⟨by simp, by simp, rfl⟩
 obtain ⟨r, h3, h4⟩ := h2;refine ⟨r, ?_, h4⟩;simp only [uF129a];rw [app_of (by simp; omega) (by simp; omega)];simp only [Option.bind_some, h1];rcases h3 with rfl | rfl <;> rfl
theorem order_le {p r : uT1} {n : Int} (h : uF110 p r = some n) (hn : n < 0) (hp : 0 ≤ p.At ∧ p.At ≤ 345686399999) (hr : 0 ≤ r.At ∧ r.At ≤ 345686399999) : p.At ≤ r.At := by
 by_cases he : p.At = r.At
 ·omega
 ·have hb : (p.At != r.At) = true := by simpa using he
  have w : IntKind.wrap .i64 (p.At - r.At) = p.At - r.At := w64 (by omega) (by omega);simp only [uF110, hb, cond_true, uF168, w, bnd, Option.bind_some] at h;by_cases h1 : p.At < r.At
  ·omega
  ·have d1 : decide (p.At - r.At < 0) = false := by simp; omega
   have d2 : decide (p.At - r.At > 0) = true := by simp; omega
   simp only [d1, cond_false, d2, cond_true, Option.bind_some] at h;have h := Option.some.inj h;omega
section
variable {t : uT6} {m : Nat} {x : List uT1} {ws : List uT3}
theorem at_in (hx : XGood x) {i : Nat} {r : uT1} (h : x[i]? = some r) : 0 ≤ r.At ∧ r.At ≤ 345686399999 := by
 obtain ⟨_, _, _, a4, a5, _⟩ := hx.2.1 i r h;exact ⟨a4, a5⟩
theorem at_mono (hx : XGood x) : ∀ (d i : Nat) (a b : uT1), x[i]? = some a → x[i + d]? = some b → a.At ≤ b.At := by
 intro d;induction d with
 | zero => intro i a b ha hb; rw [Nat.add_zero, ha] at hb; cases hb; exact Int.le_refl _
 | succ d ih =>
  intro i a b ha hb;obtain ⟨_, _, _, _, _, _, _, _, _, _, _, _, _, h14⟩ := hx.2.1 _ _ hb;obtain ⟨p, n, hp, h1, h2⟩ := h14 (by omega);rw [show i + (d + 1) - 1 = i + d from by omega] at hp
  have := ih i a p ha hp
  have := order_le h1 h2 (at_in hx hp) (at_in hx hb)
  omega
def Cov (z : uT2) (p : List UInt8) (at_ : Int) : Bool := (z.Payer == p && decide (z.From ≤ at_)) && decide (at_ < z.To)
theorem bl_add (l : List uT2) (y : uT2) (p : List UInt8) (at_ : Int) (h : at_ < y.From) : bl (l ++ [y]) p at_ = bl l p at_ := by
 have : decide (y.From ≤ at_) = false := by simp; omega
 simp [bl, this]
def RS (m : Nat) (b : List uT2) (r : uT1) : Bool := match mget (OK m) r.From with
  | some p => bl b p r.At
  | none => false
def WI (m : Nat) (x : List uT1) (ws : List uT3) (i : Nat) (n : List Int) (wt : uT8) : Prop :=
  wt.w = ws ∧ wt.counts.length ≤ i ∧ (∀ d ∈ wt.counts, COk d) ∧ wt.blocks.length ≤ i ∧ n.length ≤ i ∧
  (∀ y ∈ wt.blocks, ∃ (j k : Nat) (r : uT1) (w : uT3), j < i ∧ x[j]? = some r ∧ ws[k]? = some w ∧ y.Watch = (k : Int) ∧ y.From = r.At + 1 ∧ y.To = r.At + 1 + w.Block ∧ (w.Calls < 13 ∨ w.Cents < 650000000)) ∧
  (∀ (j : Nat) r, j < i → x[j]? = some r → n.any ((j : Int) == ·) = RS m wt.blocks r) ∧
  (∀ a ∈ n, ∃ j : Nat, j < i ∧ a = (j : Int)) ∧
  wt.blocks.Pairwise (fun z y => z.Payer = y.Payer → z.From ≠ y.From → ¬ (z.From < y.To ∧ y.From < z.To))
theorem fresh_i {n : List Int} {i : Nat} (h : ∀ a ∈ n, ∃ j : Nat, j < i ∧ a = (j : Int)) : n.any ((i : Int) == ·) = false := by
 rw [List.any_eq_false];intro a ha e;obtain ⟨j, hj, rfl⟩ := h a ha;have : (i : Int) = j := by simpa using e
 omega
theorem wi_next (hx : XGood x) {i : Nat} {n : List Int} {wt wt' : uT8} {r : uT1} (h : WI m x ws i n wt) (hr : x[i]? = some r) (hw : wt'.w = ws) (hc : wt'.counts.length ≤ i + 1) (hco : ∀ d ∈ wt'.counts, COk d)
  (hs : RS m wt.blocks r = false)
  (hb : wt'.blocks = wt.blocks ∨ ∃ (p : List UInt8) (k : Nat) (w : uT3), mget (OK m) r.From = some p ∧ ws[k]? = some w ∧ wt'.blocks = wt.blocks ++ [⟨p, (k : Int), r.At + 1, r.At + 1 + w.Block⟩] ∧ (w.Calls < 13 ∨ w.Cents < 650000000)) : WI m x ws (i + 1) n wt' := by
 obtain ⟨h1, h2, h3, h4, h5, h6, h7, h8, h9⟩ := h;have old : ∀ (j : Nat) q, j < i + 1 → x[j]? = some q → n.any ((j : Int) == ·) = RS m wt.blocks q := by
  intro j q hj hq;by_cases e : j = i
  ·subst e
   rw [hr] at hq; cases hq;rw [hs]; exact fresh_i h8
  ·exact h7 j q (by omega) hq
 have ns : ∀ a ∈ n, ∃ j : Nat, j < i + 1 ∧ a = (j : Int) := fun a ha => by
  obtain ⟨j, hj, e⟩ := h8 a ha;exact ⟨j, by omega, e⟩
 have bk : ∀ y ∈ wt.blocks, ∃ (j k : Nat) (r : uT1) (w : uT3), j < i + 1 ∧ x[j]? = some r ∧ ws[k]? = some w ∧ y.Watch = (k : Int) ∧ y.From = r.At + 1 ∧ y.To = r.At + 1 + w.Block ∧ (w.Calls < 13 ∨ w.Cents < 650000000) := fun y hy => by
  obtain ⟨j, k, q, w, a1, a2⟩ := h6 y hy;exact ⟨j, k, q, w, by omega, a2⟩
 rcases hb with e | ⟨p, k, w, hp, hk, e, hz⟩
 ·exact ⟨hw, hc, hco, by rw [e]; omega, by omega, by rw [e]; exact bk, by rw [e]; exact old, ns, by rw [e]; exact h9⟩
 ·refine ⟨hw, hc, hco, by rw [e]; simp; omega, by omega, ?_, ?_, ns, ?_⟩
  ·rw [e]
   intro y hy;rcases List.mem_append.1 hy with hy | hy
   ·exact bk y hy
   ·simp at hy; subst hy
    exact ⟨i, k, r, w, by omega, hr, hk, rfl, rfl, rfl, hz⟩
  ·intro j q hj hq
   rw [old j q hj hq, e];have hle := at_mono hx (i - j) j q r hq (by rw [show j + (i - j) = i from by omega]; exact hr);unfold RS;cases mget (OK m) q.From with
   | none => rfl
   | some p' => exact (bl_add _ _ _ _ (by (try simp only []); omega)).symm
  ·rw [e, List.pairwise_append]
   refine ⟨h9, by simp, fun z hz' y hy hpy hne => ?_⟩;simp at hy; subst hy;simp only [] at hpy hne ⊢;obtain ⟨j, k', q, w', a1, a2, _, _, a5, a6, _⟩ := h6 z hz';have hle := at_mono hx (i - j) j q r a2 (by rw [show j + (i - j) = i from by omega]; exact hr);have hs' : bl wt.blocks p r.At = false := by simpa [RS, hp] using hs
   unfold bl at hs';rw [List.any_eq_false] at hs';have hcz := hs' z hz';rintro ⟨b1, b2⟩;have : ¬ (z.From ≤ r.At ∧ r.At < z.To) := fun ⟨c1, c2⟩ => hcz (by simp [hpy, c1, c2]);omega
theorem wi_stop {i : Nat} {n : List Int} {wt : uT8} {r : uT1} (h : WI m x ws i n wt) (hr : x[i]? = some r) (hs : RS m wt.blocks r = true) : WI m x ws (i + 1) (n ++ [(i : Int)]) wt := by
 obtain ⟨h1, h2, h3, h4, h5, h6, h7, h8, h9⟩ := h;refine ⟨h1, by omega, h3, by omega, by simp; omega, fun y hy => ?_, fun j q hj hq => ?_, fun a ha => ?_, h9⟩
 ·obtain ⟨j, k, q, w, a1, a2⟩ := h6 y hy
  exact ⟨j, k, q, w, by omega, a2⟩
 ·rw [List.any_append]
  by_cases e : j = i
  ·subst e
   rw [hr] at hq; cases hq;rw [hs]; simp
  ·rw [h7 j q (by omega) hq]
   have : ((j : Int) == (i : Int)) = false := by simp; omega
   simp [this]
 ·rcases List.mem_append.1 ha with ha | ha
  ·obtain ⟨j, hj, e⟩ := h8 a ha
   exact ⟨j, by omega, e⟩
  ·simp at ha
   exact ⟨i, by omega, ha⟩
theorem watch_is (ht : TGood t) (hm : m ≤ 3) (hx : XGood x) (hw : ∀ w ∈ ws, WOk w) (hwl : ws.length ≤ 4) : ∃ b n wt, uF66 t (PY.take m) ws x = some (b, n) ∧ wt.blocks = b ∧ WI m x ws x.length n wt := by
 have hl := hx.1;obtain ⟨e, h1, wt, h2, h3⟩ := loopO_ind (step := fun s : List Int × Int × uT8 => uF66a t x (OK m) s.1 s.2.1 s.2.2) (fun q => 0 ≤ q.2.1 ∧ q.2.1 ≤ x.length ∧ WI m x ws q.2.1.toNat q.1 q.2.2)
  (fun e => ∃ wt, e.2 = wt ∧ WI m x ws x.length e.1 wt) (fun q => (x.length - q.2.1).toNat) (fun q hq => by
   obtain ⟨n, k, wt⟩ := q;obtain ⟨q0, q1, q2⟩ := hq;simp only [] at q0 q1 q2;obtain ⟨i, rfl⟩ := Int.eq_ofNat_of_zero_le q0;simp only [Int.toNat_natCast] at q2;simp only [uF66a];by_cases hlt : i < x.length
   ·have hd : decide ((i : Int) < (List.length x : Int)) = true := by simpa using hlt
    have ti : ((i : Int) + 1).toNat = i + 1 := by omega
    have wi : IntKind.wrap .i64 ((i : Int) + 1) = (i : Int) + 1 := w64 (by omega) (by omega);have hi : x[i]? = some x[i] := by simp [hlt]
    have hr := hx.2.2.1 _ (List.getElem_mem hlt);obtain ⟨_, _, _, a4, a5, a6, a7, a8, a9, _⟩ := hx.2.1 i _ hi;have qq := q2;obtain ⟨p1, p2, p3, p4, p5, p6, p7, p8, p9⟩ := qq;simp only [hd, cond_true, idx_at hlt, Option.bind_some, bnd, wi];cases ho : mget (OK m) x[i].From with
    | none =>
     simp only [Option.isSome_none, Bool.not_false, cond_true];exact .inr ⟨_, rfl, ⟨by (try simp only []); omega, by (try simp only []); omega, by simp only [ti]; exact wi_next hx q2 hi p1 (by omega) p3 (by simp [RS, ho]) (.inl rfl)⟩, by (try simp only []); omega⟩
    | some p =>
     simp only [Option.isSome_some, Bool.not_true, cond_false, Option.getD_some, blocked_is wt.blocks p x[i].At (by omega), Option.bind_some];cases hb : bl wt.blocks p x[i].At with
     | true =>
      simp only [cond_true];rw [app_of (by simp; omega) (by simp; omega)];exact .inr ⟨_, rfl, ⟨by (try simp only []); omega, by (try simp only []); omega, by simp only [ti]; exact wi_stop q2 hi (by simpa [RS, ho] using hb)⟩, by (try simp only []); omega⟩
     | false =>
      have hs : RS m wt.blocks x[i] = false := by simpa [RS, ho] using hb
      obtain ⟨c1, c2⟩ := cl_is ht (to_len hr);simp only [cond_false, c1, Option.bind_some];cases hc : (cl t x[i].To).2 with
      | false =>
       simp only [cond_false];exact .inr ⟨_, rfl, ⟨by (try simp only []); omega, by (try simp only []); omega, by simp only [ti]; exact wi_next hx q2 hi p1 (by omega) p3 hs (.inl rfl)⟩, by (try simp only []); omega⟩
      | true =>
       obtain ⟨v, v1, v2, v3⟩ := price_le _ (ht.2.1 _ (c2 hc)) x[i].Talk a8 a9;obtain ⟨r, r1, r2, r3, r4⟩ := count_is wt ⟨p, (cl t x[i].To).1.Name, x[i].At, v⟩ (by rw [p1]; exact hw) (by rw [p1]; exact hwl) (by omega) (by omega) p3 ⟨v2, v3, a4, a5⟩;simp only [cond_true, v1, Option.bind_some, r1];refine .inr ⟨_, rfl, ⟨by (try simp only []); omega, by (try simp only []); omega, ?_⟩, by (try simp only []); omega⟩;simp only [ti];refine wi_next hx q2 hi p1 (by simp only [r3]; simp; omega) (fun d hd => ?_) hs ?_
       ·simp only [r3] at hd
        rcases List.mem_append.1 hd with hd | hd
        ·exact p3 d hd
        ·simp at hd; subst hd; exact ⟨v2, v3, a4, a5⟩
       ·rcases r4 with r4 | ⟨k, w, r5, r6, r7⟩
        ·exact .inl r4
        ·exact .inr ⟨p, k, w, ho, by rw [← p1]; exact r5, r6, r7⟩
   ·have hd : decide ((i : Int) < (List.length x : Int)) = false := by simp; omega
    obtain rfl : i = x.length := by omega
    exact .inl ⟨(n, wt), by simp only [hd, cond_false], wt, rfl, q2⟩) ([], 0, ⟨ws, [], []⟩) ⟨by simp, by simp, rfl, by simp, by simp, by simp, by simp, by simp, by simp, by simp, by simp⟩
 refine ⟨e.2.blocks, e.1, wt, ?_, by rw [h2], h3⟩;simp only [uF66, owners_is hm, Option.bind_some, h1]
end
theorem contI_is (l : List Int) (i : Int) (hl : l.length ≤ 1000) : uF18 l i = some (l.any (i == ·)) := by
 have h : uF59 l i = some (idxI (i == ·) l) := idxE_loop l i (by omega);simp only [uF18, h, Option.bind_some, bnd, idxI_any]
theorem errs_is : uF15 [0, 0] = some 0 := by
 have : loopO (fun s : Int => uF15a [0, 0] s) 0 = some (.inl ()) := loopO_of (n := 5) (by kernel_rfl);simp only [uF15, this, lret]
theorem key_py {m : Nat} (hm : m ≤ 3) {k : List UInt8} (h : k ∈ (PY.take m).map (·.Key)) : uF69 k = some true := by
 obtain ⟨p, hp, rfl⟩ := List.mem_map.1 h;obtain ⟨i, hi, rfl⟩ := List.getElem_of_mem hp;have hl := py_len hm;have h1 := py_idx hm (by omega : i < m);rw [idx_at hi] at h1;rw [Option.some.inj h1];have hz := List.all_eq_true.1 pk_all i (List.mem_range.2 (by omega));rw [Bool.and_eq_true, Bool.and_eq_true, beq_iff_eq] at hz;exact hz.1.1
section
variable {t : uT6} {m : Nat} {x : List uT1} {ws : List uT3}
theorem use_is (ht : TGood t) (hm : m ≤ 3) (hx : XGood x) (hw : uF128 ws = some 0) : uF65 t (PY.take m) ws x = some 0 := by
 simp only [uF65, checkT_is t ht, Option.bind_some, bne_self_eq_false, cond_false, payers_ok hm, hw, check_is hx]
theorem payer_is (hm : m ≤ 3) {n : List UInt8} (hn : uF68 n = some true) : uF23 (PY.take m) n = some ((mget (OK m) n).getD [], (mget (OK m) n).isSome, 0) := by
 simp only [uF23, bnd, payers_ok hm, Option.bind_some, bne_self_eq_false, cond_false, hn, Bool.not_true, owners_is hm]
theorem Blocked_is {b : List uT2} (hb : b.length ≤ 1000) {k : List UInt8} (hk : uF69 k = some true) {at_ : Int} (h0 : 0 ≤ at_) (h1 : at_ ≤ 345686399999) : uF24 b k at_ = some (bl b k at_, 0) := by
 have hc : decide ((List.length b : Int) > 3000) = false := by simp; omega
 have m1 : uF70 at_ = some true := by
  have e1 : decide (at_ ≥ 0) = true := by simpa using h0
  have e2 : decide (at_ < 345686400000) = true := by simp; omega
  simp only [uF70, bnd, e1, e2, Bool.and_self]
 simp only [uF24, hc, cond_false, hk, Option.bind_some, Bool.not_true, m1, blocked_is b k at_ hb]
theorem l0_is {s1 s2 : uT0} {f g : Int} (h1m : 1 ≤ m) (hm : m ≤ 3) (hx : XGood x) {n : List Int} {wt : uT8} (h : WI m x ws x.length n wt) :
  loopO (fun s : Int => uF4 (s1, PY.take m) (s2, x) (wt.blocks, f) (n, g) s) 0 = some (.inl ()) := by
 obtain ⟨h1, h2, h3, h4, h5, h6, h7, h8, h9⟩ := h;have hl := hx.1
 have := loop_for (N := x.length) (step := fun s : Int => uF4 (s1, PY.take m) (s2, x) (wt.blocks, f) (n, g) s) (fun k => (k : Int)) (.inl ()) (fun k hk => by
  have hd : decide ((k : Int) < (List.length x : Int)) = true := by simpa using hk
  have hi : x[k]? = some x[k] := by simp [hk]
  obtain ⟨_, a2, _, a4, a5, _⟩ := hx.2.1 k _ hi;have wk : IntKind.wrap .i64 ((k : Int) + 1) = ((k + 1 : Nat) : Int) := by rw [w64 (by omega) (by omega)]; omega
  have hn := h7 k _ hk hi;simp only [uF4, hd, cond_true, idx_at hk, Option.bind_some, payer_is hm a2, bne_self_eq_false, cond_false, contI_is n _ (by omega), wk, hn];cases ho : mget (OK m) x[k].From with
  | none => simp [RS, ho]
  | some p =>
   have hk' := key_py hm (owner_key h1m hm ho);simp only [Option.isSome_some, cond_true, Option.getD_some, Blocked_is (by omega : wt.blocks.length ≤ 1000) hk' a4 a5, Option.bind_some, bne_self_eq_false, cond_false];simp [RS, ho]) (by simp [uF4])
 exact this
theorem l2_is {y : uT2} (l : List uT2) (hl : l.length ≤ 1000) (h : ∀ z ∈ l, z.Payer = y.Payer → z.From ≠ y.From → ¬ (z.From < y.To ∧ y.From < z.To)) : loopO (fun s : Int => uF4b y l s) 0 = some (.inl ()) := by
 have := loop_for (N := l.length) (step := fun s : Int => uF4b y l s) (fun k => (k : Int)) (.inl ()) (fun k hk => by
  have hd : decide ((k : Int) < (List.length l : Int)) = true := by simpa using hk
  have hz := h _ (List.getElem_mem hk);have hc : (((l[k].Payer == y.Payer) && (l[k].From != y.From)) && decide (l[k].From < y.To) && decide (y.From < l[k].To)) = false := by
   by_cases e1 : l[k].Payer = y.Payer
   ·by_cases e2 : l[k].From = y.From
    ·simp [e2]
    ·have := hz e1 e2
     by_cases e3 : l[k].From < y.To
     ·have : ¬ y.From < l[k].To := fun e4 => this ⟨e3, e4⟩
      simp [this]
     ·simp [e3]
   ·simp [e1]
  simp only [uF4b, hd, cond_true, idx_at hk, Option.bind_some, hc, cond_false];rw [w64 (by omega) (by omega)]; rfl) (by simp [uF4b])
 exact this
theorem l1_is {s1 : uT0} {f : Int} (hx : XGood x) (hw : ∀ w ∈ ws, WOk w) {n : List Int} {wt : uT8} (h : WI m x ws x.length n wt) :
  loopO (fun s : Int => uF4a (s1, ws) (wt.blocks, f) s) 0 = some (.inl ()) := by
 obtain ⟨h1, h2, h3, h4, h5, h6, h7, h8, h9⟩ := h;have hl := hx.1
 have := loop_for (N := wt.blocks.length) (step := fun s : Int => uF4a (s1, ws) (wt.blocks, f) s) (fun k => (k : Int)) (.inl ()) (fun k hk => by
  have hd : decide ((k : Int) < (List.length wt.blocks : Int)) = true := by simpa using hk
  obtain ⟨j, q, r, w, _, hr, hq, e1, e2, e3, _⟩ := h6 _ (List.getElem_mem hk);obtain ⟨a4, a5⟩ := at_in hx hr;obtain ⟨hq1, hq2⟩ := List.getElem?_eq_some_iff.1 hq;obtain ⟨_, _, b1, b2, _⟩ := hw w (List.mem_of_getElem? hq);have d1 : decide (wt.blocks[k].From ≥ wt.blocks[k].To) = false := by simp; omega
  have d2 : decide (wt.blocks[k].Watch < 0) = false := by simp; omega
  have d3 : decide (wt.blocks[k].Watch ≥ (List.length ws : Int)) = false := by simp; omega
  have hix : idx ws wt.blocks[k].Watch = some w := by rw [e1, idx_nat]; exact hq
  have wt' : IntKind.wrap .i64 (wt.blocks[k].To - wt.blocks[k].From) = w.Block := by rw [w64 (by omega) (by omega)]; omega
  have hsub : sub wt.blocks 0 (k : Int) = some (wt.blocks.take k) := by
   unfold sub;rw [if_pos ⟨by omega, by omega, by omega⟩];simp
  have hp : ∀ z ∈ wt.blocks.take k, z.Payer = wt.blocks[k].Payer → z.From ≠ wt.blocks[k].From → ¬ (z.From < wt.blocks[k].To ∧ wt.blocks[k].From < z.To) := by
   intro z hz;obtain ⟨i, hi, rfl⟩ := List.getElem_of_mem hz;have hik : i < k := by simp at hi; omega
   rw [List.getElem_take];exact List.pairwise_iff_getElem.1 h9 i k (by omega) hk hik
  simp only [uF4a, hd, cond_true, idx_at hk, Option.bind_some, d1, d2, d3, Bool.or_self, cond_false, hix, wt', bne_self_eq_false, hsub, l2_is (wt.blocks.take k) (by simp; omega) hp, lret];rw [w64 (by omega) (by omega)]; rfl) (by simp [uF4a])
 exact this
end
theorem law_BlocksStop (l : List Int) (hl : l.length ≤ 4611686018427387904) : uF4c l = some true := by
 have s0 : SOk ⟨l, 0⟩ 0 := ⟨hl, Int.le_refl _, Int.le_refl _⟩;obtain ⟨s1, t, e1, ht, k1⟩ := tariff_is ⟨l, 0⟩ 0 s0 (by omega);obtain ⟨m, m1, m3, e2⟩ := payers_is s1 _ k1 (by omega);obtain ⟨s2, ws, e3, hw, k2⟩ := watches_is ⟨s1.L, s1.at_ + 1⟩ _ k1.one (by omega);obtain ⟨s3, x, e4, hx⟩ := right_is s2 _ k2 (by omega);obtain ⟨b, n, wt, f1, rfl, f2⟩ := watch_is ht m3 hx hw.2.1 hw.1;have hok : ∀ w ∈ ([⟨[], 1000, 3000, 1000000000000, 5⟩] : List uT3), WOk w := fun w hw => by
  simp at hw; subst hw;exact ⟨by decide, by decide, by decide, by decide, by decide, by decide, by decide, by decide⟩
 obtain ⟨b', n', wt', g1, rfl, g2⟩ := watch_is (ws := [⟨[], 1000, 3000, 1000000000000, 5⟩]) ht m3 hx hok (by simp);have hcw : uF128 [⟨[], 1000, 3000, 1000000000000, 5⟩] = some 0 := checkW_of _ (by simp) hok (fun w hw => by simp at hw; subst hw; exact .inl rfl) fun i a b ha hb => by
  have := (List.getElem?_eq_some_iff.1 hb).1
  simp at this
 have hnil : wt'.blocks = [] := by
  rw [List.eq_nil_iff_forall_not_mem];intro y hy;obtain ⟨_, _, _, _, _, h6, _⟩ := g2;obtain ⟨j, k, r, w, _, _, hk, _, _, _, hz⟩ := h6 y hy
  have := List.mem_of_getElem? hk
  simp at this; subst this;simp at hz
 have u1 := use_is ht m3 hx (checkW_is hw);have u2 := use_is ht m3 hx hcw;have eB : uF21 t (PY.take m) ws x = some (wt.blocks, 0) := by
  simp only [uF21, u1, Option.bind_some, bne_self_eq_false, cond_false, f1]
 have eS : uF22 t (PY.take m) ws x = some (n, 0) := by
  simp only [uF22, u1, Option.bind_some, bne_self_eq_false, cond_false, f1]
 have eE : uF21 t (PY.take m) [⟨[], 1000, 3000, 1000000000000, 5⟩] x = some ([], 0) := by
  simp only [uF21, u2, Option.bind_some, bne_self_eq_false, cond_false, g1, hnil]
 simp only [uF4c, e1, Option.bind_some, e2, e3, e4, eB, eS, errs_is, bne_self_eq_false, cond_false, l0_is m1 m3 hx f2, lret, l1_is hx hw.2.1 f2, eE];simp [uF19]
end Go.Proofs.YtagbgmkocjfanaaGreatDoor
