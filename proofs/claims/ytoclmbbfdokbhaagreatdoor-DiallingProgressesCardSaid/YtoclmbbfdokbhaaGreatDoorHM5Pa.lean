/-
  Plans: what is drawn.
-/
import Derived.Test.YtoclmbbfdokbhaaGreatDoorHM5Aa
import Derived.Test.YtoclmbbfdokbhaaGreatDoorHM5Absc
namespace Go.Proofs.YtoclmbbfdokbhaaGreatDoor
open Go Go.Abs
set_option maxRecDepth 100000
set_option maxHeartbeats 1000000
theorem below_is (x n : Int) (h1 : 1 ≤ n) (h2 : n ≤ 4611686018427387904) : uF128 x n = some (x % n) := by
 have hn : ¬ n < 1 := by omega
 have hn0 : n ≠ 0 := by omega
 have hlt : x.tmod n < n := Int.tmod_lt_of_pos _ (by omega);have hgt : -n < x.tmod n := by
  have := Int.tmod_lt_of_pos (-x) (b := n) (by omega)
  rw [Int.neg_tmod] at this; omega
 rw [emod_tmod x n h1];by_cases h : x.tmod n < 0
 ·simp (disch := omega) [uF128, hn, grem, hn0, h, bnd, w64]
 ·simp [uF128, hn, grem, hn0, h, bnd]
def SOk (s : uT1) (k : Int) : Prop := s.L.length ≤ 4611686018427387904 ∧ 0 ≤ s.at_ ∧ s.at_ ≤ k
theorem next_is (s : uT1) (n k : Int) (hs : SOk s k) (hk : k ≤ 4611686018427387904) (h1 : 1 ≤ n) (h2 : n ≤ 4611686018427387904) :
  ∃ r, uF63 s n = some (⟨s.L, s.at_ + 1⟩, r) ∧ 0 ≤ r ∧ r < n := by
 obtain ⟨hl, ha, hb⟩ := hs;have e1 : IntKind.wrap .i64 (s.at_ + 1) = s.at_ + 1 := w64 (by omega) (by omega);have hm : ∀ x : Int, 0 ≤ x % n ∧ x % n < n := fun x => ⟨Int.emod_nonneg _ (by omega), Int.emod_lt_of_pos _ (by omega)⟩;unfold uF63;rw [e1];by_cases h0 : s.L.length = 0
 ·have hz : (s.L.length : Int) = 0 := by omega
  simp [hz, below_is _ _ h1 h2];exact hm _
 ·have hz : ¬ ((s.L.length : Int) = 0) := by omega
  have e2 : IntKind.wrap .i64 (s.at_ + 1 - 1) = s.at_ := by rw [w64] <;> omega
  have hi : 0 ≤ s.at_.tmod s.L.length ∧ s.at_.tmod s.L.length < s.L.length := ⟨Int.tmod_nonneg _ ha, Int.tmod_lt_of_pos _ (by omega)⟩;obtain ⟨x, hx, _⟩ := idx_of hi.1 hi.2;rw [e2];have hne : s.L ≠ [] := by rintro q; simp [q] at h0
  have hb : ((s.L.length : Int) == 0) = false := by simp [hne]
  simp [hb, hne, grem, gquo, hx, below_is _ _ h1 h2, below_is _ 1073741824 (by omega) (by omega)];exact hm _
theorem range_is (s : uT1) (lo hi k : Int) (hs : SOk s k) (hk : k ≤ 4611686018427387904) (h1 : lo ≤ hi) (h2 : -1000000000000 ≤ lo) (h3 : hi ≤ 1000000000000) :
  ∃ r, uF61 s lo hi = some (⟨s.L, s.at_ + 1⟩, r) ∧ lo ≤ r ∧ r ≤ hi := by
 obtain ⟨r, e, r1, r2⟩ := next_is s (hi - lo + 1) k hs hk (by omega) (by omega);have hlt : ¬ hi < lo := by omega
 refine ⟨lo + r, ?_, by omega, by omega⟩;simp (disch := omega) [uF61, hlt, w64, e, bnd]

theorem SOk.up {s : uT1} {k m : Int} (h : SOk s k) (e : k ≤ m) : SOk s m := ⟨h.1, h.2.1, Int.le_trans h.2.2 e⟩
theorem SOk.one {s : uT1} {k : Int} (h : SOk s k) : SOk ⟨s.L, s.at_ + 1⟩ (k + 1) := by
 obtain ⟨a, b, c⟩ := h;exact ⟨a, by (try simp only []); omega, by (try simp only []); omega⟩
theorem pick_in (s : uT1) (l : List Int) (k : Int) (hs : SOk s k) (hk : k ≤ 1000000) (hl : 0 < l.length) (hl2 : l.length ≤ 1000) : ∃ r, uF58 s l = some (⟨s.L, s.at_ + 1⟩, r) ∧ r ∈ l := by
 obtain ⟨r, e, r1, r2⟩ := next_is s l.length k hs (by omega) (by omega) (by omega);obtain ⟨x, hx, hm⟩ := idx_of r1 r2;exact ⟨x, by simp [uF58, e, hx], hm⟩
theorem flip_is (s : uT1) (n k : Int) (hs : SOk s k) (hk : k ≤ 1000000) (h1 : 1 ≤ n) (h2 : n ≤ 1000) : ∃ b, uF53 s n = some (⟨s.L, s.at_ + 1⟩, b) := by
 obtain ⟨r, e, r1, r2⟩ := next_is s n k hs (by omega) (by omega) (by omega);exact ⟨r == 0, by simp [uF53, e, bnd]⟩
def hpB (x y : List UInt8) : Bool := decide (y.length ≤ x.length) && (x.take y.length == y)
theorem hp_is (x y : List UInt8) : uF96 x y = some (hpB x y) := by
 unfold uF96 uF161 hpB;by_cases h : y.length ≤ x.length
 ·have h1 : decide ((x.length : Int) ≥ (y.length : Int)) = true := decide_eq_true (by omega)
  have h2 : sub x 0 (y.length : Int) = some (x.take y.length) := by
   unfold sub;rw [if_pos (by omega)]; simp
  simp only [h1, h2, h, cond_true, Option.bind_some, decide_true, Bool.true_and]
 ·have h1 : decide ((x.length : Int) ≥ (y.length : Int)) = false := decide_eq_false (by omega)
  simp only [h1, h, cond_false, Option.bind_some, decide_false, Bool.false_and]
theorem cut_is (x y : List UInt8) : uF102 x y = some (if hpB x y = true then (x.drop y.length, true) else (x, false)) := by
 have h := hp_is x y;unfold uF96 at h;obtain ⟨b, hb, h'⟩ := obind h;have h' := Option.some.inj h';subst h';unfold uF102 uF165;simp only [bnd, hb, Option.bind_some];cases hq : hpB x y with
 | false => simp
 | true =>
  have hl : y.length ≤ x.length := by simp [hpB] at hq; exact hq.1
  have h2 : sub x (y.length : Int) (x.length : Int) = some (x.drop y.length) := by
   unfold sub;rw [if_pos (by omega)]; simp
  simp [h2]
def digs : List UInt8 := [48, 49, 50, 51, 52, 53, 54, 55, 56, 57]
def digB (x : List UInt8) (lo hi : Int) : Bool := (decide (lo ≤ (x.length : Int)) && decide ((x.length : Int) ≤ hi)) && (Lib.trimS x digs == [])
theorem trim_is (x : List UInt8) (h : x.length ≤ 1000000) : uF160 x digs = some (Lib.trimS x digs) := by
 have hk : trimOk x digs = true := by
  unfold trimOk digs;have : x.length ≤ 9223372036854775807 := by omega
  simp [this]
 simp [uF160, hk]
theorem dig_is (x : List UInt8) (lo hi : Int) (h : x.length ≤ 1000000) : uF94 x lo hi = some (digB x lo hi) := by
 unfold uF94 uF103 digB;rw [show ([48, 49, 50, 51, 52, 53, 54, 55, 56, 57] : List UInt8) = digs from rfl, trim_is x h];simp only [bnd, Option.bind_some];cases (decide (lo ≤ (x.length : Int)) && decide ((x.length : Int) ≤ hi)) <;> rfl
theorem dig_is' (x : List UInt8) (lo hi : Int) (h : x.length ≤ 1000000) : uF105 x lo hi = some (digB x lo hi) := by
 unfold uF105 uF166 digB;rw [show ([48, 49, 50, 51, 52, 53, 54, 55, 56, 57] : List UInt8) = digs from rfl, trim_is x h];simp only [bnd, Option.bind_some, ge_iff_le];cases (decide (lo ≤ (x.length : Int)) && decide ((x.length : Int) ≤ hi)) <;> rfl

def GoodA (a : uT2) : Prop := a.Prefix.length ≤ 100000 ∧ -4611686018427387904 ≤ a.Low ∧ a.Low ≤ 4611686018427387904 ∧ -4611686018427387904 ≤ a.High ∧ a.High ≤ 4611686018427387904
def GoodC (c : uT0) : Prop := c.Code.length ≤ 100000 ∧ c.Abroad.length ≤ 100000 ∧ c.Trunk.length ≤ 100000 ∧ c.Areas.length ≤ 100000 ∧ ∀ a ∈ c.Areas, GoodA a

def errL {α : Type} (f : Nat → α → Int) : Nat → List α → Int
  | _, [] => 0
  | i, a :: l => if f i a = 0 then errL f (i + 1) l else f i a
theorem err_loop {α : Type} {step : Int → Option (Int ⊕ (Unit ⊕ Int))} (l : List α) (f : Nat → α → Int)
  (h : ∀ (i : Nat) (a : α), l[i]? = some a → step (i : Int) = some (if f i a = 0 then .inl ((i + 1 : Nat) : Int) else .inr (.inr (f i a)))) (hend : step (l.length : Int) = some (.inr (.inl ()))) :
  loopO step 0 = some (if errL f 0 l = 0 then .inl () else .inr (errL f 0 l)) := by
 have key : ∀ (m : List α) (i : Nat), foldE (fun i a (_ : Unit) => some (if f i a = 0 then (.inl () : Unit ⊕ (Unit ⊕ Int)) else .inr (.inr (f i a)))) (fun _ => (.inl () : Unit ⊕ Int)) i m () = some (if errL f i m = 0 then .inl () else .inr (errL f i m)) := by
  intro m;induction m with
  | nil => intro i; rfl
  | cons a m ih =>
   intro i;by_cases e : f i a = 0
   ·simp only [foldE, e, if_true, errL]; exact ih (i + 1)
   ·simp only [foldE, e, if_false, errL]
 have := loop_list (step := step) l (fun i (_ : Unit) => (i : Int)) (fun i a _ => some (if f i a = 0 then (.inl () : Unit ⊕ (Unit ⊕ Int)) else .inr (.inr (f i a)))) (fun _ => .inl ()) (fun i a s hi => by
  rw [h i a hi];by_cases e : f i a = 0 <;> simp [e]) (fun s => hend) ()
 rw [← key l 0]; exact this
theorem errL_zero {α : Type} {f : Nat → α → Int} : ∀ {l : List α} {i : Nat}, errL f i l = 0 → ∀ k a, l[k]? = some a → f (i + k) a = 0
 | [], _, _, k, a, hk => by simp at hk
 | b :: l, i, h, k, a, hk => by
  by_cases e : f i b = 0
  ·simp only [errL, e, if_true] at h
   cases k with
   | zero => simp at hk; subst hk; exact e
   | succ k =>
    have := errL_zero h k a (by simpa using hk)
    rwa [show i + 1 + k = i + (k + 1) from by omega] at this
  ·simp only [errL, e, if_false] at h

def areaE (c : uT0) (k : Nat) (a : uT2) : Int :=
  let p : uT2 := c.Areas[k - 1]?.getD a
  bif !digB a.Prefix 1 8 then 3
  else bif decide (0 < k) && (Op.bytesLess a.Prefix p.Prefix || a.Prefix == p.Prefix) then 7
  else bif (decide (0 < k) && hpB a.Prefix p.Prefix) || (hpB (c.Trunk ++ a.Prefix) c.Abroad || hpB c.Abroad (c.Trunk ++ a.Prefix)) then 13
  else bif ((decide (a.Low ≤ (a.Prefix.length : Int)) || decide (a.Low > a.High)) || decide (a.High > 15 - (c.Code.length : Int))) || decide (a.Low < 4 - (c.Code.length : Int)) then 1 else 0
theorem sadd_of {x y : List UInt8} (h : x.length + y.length ≤ 4611686018427387904) : sadd x y = some (x ++ y) := by simp [sadd, h]
theorem prev_at {α : Type} {l : List α} {k : Nat} {a b : α} (hk : l[k]? = some a) (h0 : 0 < k) (hl : l.length ≤ 100000) : idx l (IntKind.wrap .i64 ((k : Int) - 1)) = some (l[k - 1]?.getD b) := by
 have hlt := (List.getElem?_eq_some_iff.1 hk).1;rw [w64 (by omega) (by omega), show ((k : Int) - 1) = ((k - 1 : Nat) : Int) from by omega, idx_at (by omega)];simp [show k - 1 < l.length from by omega]
theorem area_is {c : uT0} {k : Nat} {a : uT2} (hc : GoodC c) (hk : c.Areas[k]? = some a) : uF193 c (k : Int) = some (areaE c k a) := by
 obtain ⟨h1, h2, h3, h4, h5⟩ := hc;obtain ⟨g1, g2, g3, g4, g5⟩ := h5 a (List.mem_of_getElem? hk);have ws : sadd c.Trunk a.Prefix = some (c.Trunk ++ a.Prefix) := sadd_of (by omega);have w1 : IntKind.wrap .i64 (15 - (c.Code.length : Int)) = 15 - (c.Code.length : Int) := w64 (by omega) (by omega);have w2 : IntKind.wrap .i64 (4 - (c.Code.length : Int)) = 4 - (c.Code.length : Int) := w64 (by omega) (by omega);unfold uF193 areaE;simp only [idx_nat, hk, Option.bind_some, ws, dig_is' a.Prefix 1 8 (by omega), hp_is, bnd, w1, w2];cases digB a.Prefix 1 8
 ·rfl
 ·simp only [Bool.not_true, cond_false]
  by_cases h0 : 0 < k
  ·have hd : decide ((k : Int) > 0) = true := decide_eq_true (by omega)
   simp only [hd, cond_true, prev_at (b := a) hk h0 h4, Option.bind_some, decide_eq_true h0, Bool.true_and];cases (Op.bytesLess a.Prefix (c.Areas[k - 1]?.getD a).Prefix || a.Prefix == (c.Areas[k - 1]?.getD a).Prefix)
   ·simp only [cond_false]
    cases hpB a.Prefix (c.Areas[k - 1]?.getD a).Prefix
    ·simp only [cond_false, Bool.false_or]
     cases hpB (c.Trunk ++ a.Prefix) c.Abroad
     ·simp only [cond_false, Bool.false_or, Option.bind_some]
      cases hpB c.Abroad (c.Trunk ++ a.Prefix) <;> simp only [cond_false, cond_true, Option.bind_some] <;> (try rfl) <;> cases ((decide (a.Low ≤ (a.Prefix.length : Int)) || decide (a.Low > a.High)) || decide (a.High > 15 - (c.Code.length : Int))) || decide (a.Low < 4 - (c.Code.length : Int)) <;> rfl
     ·simp only [cond_true, Bool.true_or, Option.bind_some]
    ·simp only [cond_true, Bool.true_or, Option.bind_some]
   ·simp only [cond_true]
  ·have hd : decide ((k : Int) > 0) = false := decide_eq_false (by omega)
   simp only [hd, cond_false, Option.bind_some, decide_eq_false h0, Bool.false_and, Bool.false_or];cases hpB (c.Trunk ++ a.Prefix) c.Abroad
   ·simp only [cond_false, Bool.false_or, Option.bind_some]
    cases hpB c.Abroad (c.Trunk ++ a.Prefix) <;> simp only [cond_false, cond_true, Option.bind_some] <;> (try rfl) <;> cases ((decide (a.Low ≤ (a.Prefix.length : Int)) || decide (a.Low > a.High)) || decide (a.High > 15 - (c.Code.length : Int))) || decide (a.Low < 4 - (c.Code.length : Int)) <;> rfl
   ·simp only [cond_true, Bool.true_or, Option.bind_some]
theorem c1_is {c : uT0} {k : Nat} {a : uT2} (hc : GoodC c) (hk : c.Areas[k]? = some a) : uF154 c (k : Int) = some (if areaE c k a = 0 then .inl ((k + 1 : Nat) : Int) else .inr (.inr (areaE c k a))) := by
 have hlt := (List.getElem?_eq_some_iff.1 hk).1;have h4 := hc.2.2.2.1;have hd : decide ((k : Int) < (c.Areas.length : Int)) = true := decide_eq_true (by omega);unfold uF154;simp only [hd, cond_true, area_is hc hk, Option.bind_some, w64 (n := (k : Int) + 1) (by omega) (by omega)];by_cases e : areaE c k a = 0
 ·simp [e]
 ·have : (areaE c k a != 0) = true := by simpa using e
  simp only [this, cond_true, e, if_false]
theorem f1_is {c : uT0} {k : Nat} {a : uT2} (hc : GoodC c) (hk : c.Areas[k]? = some a) : uF33 c (k : Int) = some (if areaE c k a = 0 then .inl ((k + 1 : Nat) : Int) else .inr (.inr (areaE c k a))) := by
 have hlt := (List.getElem?_eq_some_iff.1 hk).1;obtain ⟨h1, h2, h3, h4, h5⟩ := hc;obtain ⟨g1, g2, g3, g4, g5⟩ := h5 a (List.mem_of_getElem? hk);have hd : decide ((k : Int) < (c.Areas.length : Int)) = true := decide_eq_true (by omega);have ws : sadd c.Trunk a.Prefix = some (c.Trunk ++ a.Prefix) := sadd_of (by omega);have w1 : IntKind.wrap .i64 (a.High + (c.Code.length : Int)) = a.High + (c.Code.length : Int) := w64 (by omega) (by omega);have w2 : IntKind.wrap .i64 (a.Low + (c.Code.length : Int)) = a.Low + (c.Code.length : Int) := w64 (by omega) (by omega);have d1 : decide (a.High + (c.Code.length : Int) > 15) = decide (a.High > 15 - (c.Code.length : Int)) := decide_eq_decide.2 (by omega);have d2 : decide (a.Low + (c.Code.length : Int) < 4) = decide (a.Low < 4 - (c.Code.length : Int)) := decide_eq_decide.2 (by omega);unfold uF33 areaE;simp only [hd, cond_true, idx_nat, hk, Option.bind_some, ws, dig_is a.Prefix 1 8 (by omega), hp_is, bnd, w1, w2, d1, d2, w64 (n := (k : Int) + 1) (by omega) (by omega)];cases digB a.Prefix 1 8
 ·rfl
 ·simp only [Bool.not_true, cond_false]
  by_cases h0 : 0 < k
  ·have hd : decide ((k : Int) > 0) = true := decide_eq_true (by omega)
   simp only [hd, cond_true, prev_at (b := a) hk h0 h4, Option.bind_some, decide_eq_true h0, Bool.true_and];cases (Op.bytesLess a.Prefix (c.Areas[k - 1]?.getD a).Prefix || a.Prefix == (c.Areas[k - 1]?.getD a).Prefix)
   ·simp only [cond_false]
    cases hpB a.Prefix (c.Areas[k - 1]?.getD a).Prefix
    ·simp only [cond_false, Bool.false_or]
     cases hpB (c.Trunk ++ a.Prefix) c.Abroad
     ·simp only [cond_false, Bool.false_or, Option.bind_some]
      cases hpB c.Abroad (c.Trunk ++ a.Prefix) <;> simp only [cond_false, cond_true, Option.bind_some] <;> (try rfl) <;> cases ((decide (a.Low ≤ (a.Prefix.length : Int)) || decide (a.Low > a.High)) || decide (a.High > 15 - (c.Code.length : Int))) || decide (a.Low < 4 - (c.Code.length : Int)) <;> rfl
     ·rfl
    ·rfl
   ·rfl
  ·have hd : decide ((k : Int) > 0) = false := decide_eq_false (by omega)
   simp only [hd, cond_false, Option.bind_some, decide_eq_false h0, Bool.false_and, Bool.false_or];cases hpB (c.Trunk ++ a.Prefix) c.Abroad
   ·simp only [cond_false, Bool.false_or, Option.bind_some]
    cases hpB c.Abroad (c.Trunk ++ a.Prefix) <;> simp only [cond_false, cond_true, Option.bind_some] <;> (try rfl) <;> cases ((decide (a.Low ≤ (a.Prefix.length : Int)) || decide (a.Low > a.High)) || decide (a.High > 15 - (c.Code.length : Int))) || decide (a.Low < 4 - (c.Code.length : Int)) <;> rfl
   ·rfl
theorem areas_end {c : uT0} : uF154 c (c.Areas.length : Int) = some (.inr (.inl ())) ∧ uF33 c (c.Areas.length : Int) = some (.inr (.inl ())) := by
 constructor
 ·simp [uF154]
 ·simp [uF33]
theorem c1_loop {c : uT0} (hc : GoodC c) : loopO (fun s : Int => uF154 c s) 0 = some (if errL (areaE c) 0 c.Areas = 0 then .inl () else .inr (errL (areaE c) 0 c.Areas)) :=
 err_loop c.Areas (areaE c) (fun _ _ h => c1_is hc h) areas_end.1
theorem f1_loop {c : uT0} (hc : GoodC c) : loopO (fun s : Int => uF33 c s) 0 = some (if errL (areaE c) 0 c.Areas = 0 then .inl () else .inr (errL (areaE c) 0 c.Areas)) :=
 err_loop c.Areas (areaE c) (fun _ _ h => f1_is hc h) areas_end.2
def countryE (p : List uT0) (k : Nat) (c : uT0) : Int :=
  let o : uT0 := p[k - 1]?.getD c
  bif !digB c.Code 1 3 || (((c.Code[0]?.getD 0).toNat : Int) == 48) then 3
  else bif decide (0 < k) && (Op.bytesLess c.Code o.Code || c.Code == o.Code) then 7
  else bif (p.take k).any (fun o => hpB c.Code o.Code) then 13
  else bif (!digB c.Abroad 1 4 || !digB c.Trunk 0 2) || hpB c.Trunk c.Abroad then 3
  else bif decide ((c.Areas.length : Int) > 300) then 2 else errL (areaE c) 0 c.Areas
def planE (p : List uT0) : Int := if (p.length : Int) > 100 then 2 else errL (countryE p) 0 p
def GoodP (p : List uT0) : Prop := p.length ≤ 100000 ∧ ∀ c ∈ p, GoodC c
theorem dig_ne {x : List UInt8} {hi : Int} (h : digB x 1 hi = true) : idx x 0 = some (x[0]?.getD 0) := by
 have h1 : 1 ≤ (x.length : Int) := by
  simp only [digB, Bool.and_eq_true, decide_eq_true_eq] at h; exact h.1.1
 cases x with
 | nil => simp at h1
 | cons a x => rfl
theorem any_is (l : List uT0) (g : uT0 → Option Bool) (q : uT0 → Bool) (hg : ∀ a ∈ l, g a = some (q a)) (hl : l.length ≤ 100000) : uF83 l g = some (l.any q) := by
 have h : uF148 l g = some (idxI q l) := idxF_loop l g q hg (by omega);unfold uF83;simp only [h, Option.bind_some, bnd, idxI_any]
theorem sub_take {α : Type} {l : List α} {k : Nat} (h : k ≤ l.length) : sub l 0 (k : Int) = some (l.take k) := by
 unfold sub;rw [if_pos (by omega)]; simp
theorem conf_loop {c : uT0} (l : List uT0) (hl : l.length ≤ 100000) : loopO (fun s : Int => uF192 c l s) 0 = some (if l.any (fun o => hpB c.Code o.Code) = true then .inr 13 else .inl ()) := by
 have h := err_loop (step := fun s : Int => uF192 c l s) l (fun _ o => if hpB c.Code o.Code = true then 13 else 0) (fun i a hi => by
  have hlt := (List.getElem?_eq_some_iff.1 hi).1;have hd : decide ((i : Int) < (l.length : Int)) = true := decide_eq_true (by omega);simp only [uF192, hd, cond_true, idx_nat, hi, Option.bind_some, hp_is, w64 (n := (i : Int) + 1) (by omega) (by omega)];cases hpB c.Code a.Code <;> simp) (by simp [uF192])
 rw [h];have key : ∀ (l : List uT0) (i : Nat), errL (fun _ (o : uT0) => if hpB c.Code o.Code = true then (13 : Int) else 0) i l = if l.any (fun o => hpB c.Code o.Code) = true then 13 else 0 := by
  intro l;induction l with
  | nil => intro i; rfl
  | cons a l ih =>
   intro i;simp only [errL, List.any_cons];by_cases hb : hpB c.Code a.Code = true
   ·simp [hb]
   ·have hb' : hpB c.Code a.Code = false := by simpa using hb
    simp only [hb', Bool.false_eq_true, if_false, if_true, Bool.false_or]; exact ih (i + 1)
 rw [key];cases l.any (fun o => hpB c.Code o.Code) <;> simp

theorem country_is {p : List uT0} {k : Nat} {c : uT0} (hp : GoodP p) (hk : p[k]? = some c) :
  uF154a p (k : Int) = some (if countryE p k c = 0 then .inl ((k + 1 : Nat) : Int) else .inr (.inr (countryE p k c))) := by
 have hlt := (List.getElem?_eq_some_iff.1 hk).1;obtain ⟨hl, hg⟩ := hp;have hc := hg c (List.mem_of_getElem? hk);obtain ⟨h1, h2, h3, h4, h5⟩ := hc;have hd : decide ((k : Int) < (p.length : Int)) = true := decide_eq_true (by omega);have w1 := w64 (n := (k : Int) + 1) (by omega) (by omega);have key : ∃ e, uF192a p (k : Int) = some e ∧ countryE p k c = (if e = 0 then errL (areaE c) 0 c.Areas else e) := by
  unfold uF192a countryE;simp only [idx_nat, hk, Option.bind_some, dig_is' c.Code 1 3 (by omega), dig_is' c.Abroad 1 4 (by omega), dig_is' c.Trunk 0 2 (by omega), bnd, sub_take (Nat.le_of_lt hlt), conf_loop (c := c) (p.take k) (by simp; omega), hp_is];cases hq : digB c.Code 1 3
  ·exact ⟨3, rfl, rfl⟩
  ·simp only [Bool.not_true, cond_false, dig_ne hq, Option.bind_some, Bool.false_or]
   cases (((c.Code[0]?.getD 0).toNat : Int) == 48)
   ·simp only [cond_false]
    have ho : (bif decide ((k : Int) > 0) then ((idx p (IntKind.wrap .i64 ((k : Int) - 1))).bind fun y44 => some (Op.bytesLess c.Code y44.Code || c.Code == y44.Code)) else some false) = some (decide (0 < k) && (Op.bytesLess c.Code (p[k - 1]?.getD c).Code || c.Code == (p[k - 1]?.getD c).Code)) := by
     by_cases h0 : 0 < k
     ·simp only [decide_eq_true (show (k : Int) > 0 from by omega), cond_true, prev_at (b := c) hk h0 hl, Option.bind_some, decide_eq_true h0, Bool.true_and]
     ·simp only [decide_eq_false (show ¬ (k : Int) > 0 from by omega), cond_false, decide_eq_false h0, Bool.false_and]
    simp only [ho, Option.bind_some];cases (decide (0 < k) && (Op.bytesLess c.Code (p[k - 1]?.getD c).Code || c.Code == (p[k - 1]?.getD c).Code))
    ·simp only [cond_false]
     cases (p.take k).any (fun o => hpB c.Code o.Code)
     ·simp only [Bool.false_eq_true, if_false, lret, cond_false]
      cases digB c.Abroad 1 4
      ·exact ⟨3, rfl, rfl⟩
      ·cases digB c.Trunk 0 2
       ·exact ⟨3, rfl, rfl⟩
       ·simp only [Bool.not_true, cond_false, Option.bind_some, Bool.false_or]
        cases hpB c.Trunk c.Abroad
        ·simp only [cond_false]
         cases decide ((c.Areas.length : Int) > 300)
         ·exact ⟨0, rfl, rfl⟩
         ·exact ⟨2, rfl, rfl⟩
        ·exact ⟨3, rfl, rfl⟩
     ·exact ⟨13, rfl, rfl⟩
    ·exact ⟨7, rfl, rfl⟩
   ·exact ⟨3, rfl, rfl⟩
 obtain ⟨e, e1, e2⟩ := key;unfold uF154a;simp only [hd, cond_true, idx_nat, hk, Option.bind_some, e1, c1_loop ⟨h1, h2, h3, h4, h5⟩, w1, e2];by_cases he : e = 0
 ·subst he
  simp only [bne_self_eq_false, cond_false, if_true];by_cases ha : errL (areaE c) 0 c.Areas = 0 <;> simp [ha, lret]
 ·have : (e != 0) = true := by simpa using he
  simp only [this, cond_true, he, if_false]
theorem fault_is {p : List uT0} {k : Nat} {c : uT0} (hp : GoodP p) (hk : p[k]? = some c) :
  uF33b p (k : Int) = some (if countryE p k c = 0 then .inl ((k + 1 : Nat) : Int) else .inr (.inr (countryE p k c))) := by
 have hlt := (List.getElem?_eq_some_iff.1 hk).1;obtain ⟨hl, hg⟩ := hp;have hc := hg c (List.mem_of_getElem? hk);obtain ⟨h1, h2, h3, h4, h5⟩ := hc;have hd : decide ((k : Int) < (p.length : Int)) = true := decide_eq_true (by omega);have w1 := w64 (n := (k : Int) + 1) (by omega) (by omega);have hany : uF83 (p.take k) (fun a0 => uF95 a0 c) = some ((p.take k).any (fun o => hpB c.Code o.Code)) :=
  any_is _ _ _ (fun a _ => by simp [uF95, hp_is]) (by simp; omega)
 unfold uF33b countryE;simp only [hd, cond_true, idx_nat, hk, Option.bind_some, dig_is c.Code 1 3 (by omega), dig_is c.Abroad 1 4 (by omega), dig_is c.Trunk 0 2 (by omega), bnd, sub_take (Nat.le_of_lt hlt), hany, hp_is, f1_loop ⟨h1, h2, h3, h4, h5⟩, w1];cases hq : digB c.Code 1 3
 ·rfl
 ·simp only [Bool.not_true, cond_false, dig_ne hq, Option.bind_some, Bool.false_or]
  cases (((c.Code[0]?.getD 0).toNat : Int) == 48)
  ·simp only [cond_false]
   have ho : (bif decide ((k : Int) > 0) then ((idx p (IntKind.wrap .i64 ((k : Int) - 1))).bind fun y44 => some (Op.bytesLess c.Code y44.Code || c.Code == y44.Code)) else some false) = some (decide (0 < k) && (Op.bytesLess c.Code (p[k - 1]?.getD c).Code || c.Code == (p[k - 1]?.getD c).Code)) := by
    by_cases h0 : 0 < k
    ·simp only [decide_eq_true (show (k : Int) > 0 from by omega), cond_true, prev_at (b := c) hk h0 hl, Option.bind_some, decide_eq_true h0, Bool.true_and]
    ·simp only [decide_eq_false (show ¬ (k : Int) > 0 from by omega), cond_false, decide_eq_false h0, Bool.false_and]
   simp only [ho, Option.bind_some];cases (decide (0 < k) && (Op.bytesLess c.Code (p[k - 1]?.getD c).Code || c.Code == (p[k - 1]?.getD c).Code))
   ·simp only [cond_false]
    cases (p.take k).any (fun o => hpB c.Code o.Code)
    ·simp only [cond_false]
     cases digB c.Abroad 1 4
     ·rfl
     ·cases digB c.Trunk 0 2
      ·rfl
      ·simp only [Bool.not_true, cond_false, Option.bind_some, Bool.false_or]
       cases hpB c.Trunk c.Abroad
       ·simp only [cond_false]
        cases decide ((c.Areas.length : Int) > 300)
        ·simp only [cond_false]
         by_cases ha : errL (areaE c) 0 c.Areas = 0 <;> simp [ha, lret]
        ·rfl
       ·rfl
    ·rfl
   ·rfl
  ·rfl
theorem check_plan {p : List uT0} (hp : GoodP p) : uF154b p = some (planE p) := by
 have h := err_loop p (countryE p) (fun _ _ h => country_is hp h) (by simp [uF154a]);unfold uF154b planE;rw [h];by_cases hl : (p.length : Int) > 100
 ·simp [hl]
 ·simp only [decide_eq_false hl, cond_false, hl, if_false]
  by_cases he : errL (countryE p) 0 p = 0 <;> simp [he, lret]
theorem plan_fault {p : List uT0} (hp : GoodP p) : uF33a p = some (planE p) := by
 have h := err_loop p (countryE p) (fun _ _ h => fault_is hp h) (by simp [uF33b]);unfold uF33a planE;rw [h];by_cases hl : (p.length : Int) > 100
 ·simp [hl]
 ·simp only [decide_eq_false hl, cond_false, hl, if_false]
  by_cases he : errL (countryE p) 0 p = 0 <;> simp [he, lret]
theorem idx_find {α : Type} (q : α → Bool) : ∀ l : List α, (idxI q l < 0 ∧ l.find? q = none) ∨ (0 ≤ idxI q l ∧ ∃ a, idx l (idxI q l) = some a ∧ l.find? q = some a ∧ a ∈ l ∧ q a = true)
 | [] => .inl ⟨by simp [idxI_nil], rfl⟩
 | a :: l => by
  rw [idxI_cons]
  by_cases h : q a = true
  ·refine .inr ⟨by simp [h], a, ?_, ?_, by simp, h⟩
   ·simp [h, idx]
   ·simp [h]
  ·have h' : q a = false := by simpa using h
   rcases idx_find q l with ⟨h1, h2⟩ | ⟨h1, b, h2, h3, h4, h5⟩
   ·refine .inl ⟨?_, ?_⟩
    ·simp [h', h1]
    ·simp [h', h2]
   ·refine .inr ⟨?_, b, ?_, ?_, by simp [h4], h5⟩
    ·simp only [h', Bool.false_eq_true, if_false]
     rw [if_neg (by omega)]; omega
    ·simp only [h', Bool.false_eq_true, if_false]
     rw [if_neg (by omega)]
     obtain ⟨n, hn⟩ := Int.eq_ofNat_of_zero_le h1
     rw [hn] at h2 ⊢
     rw [show ((n : Int) + 1) = ((n + 1 : Nat) : Int) from by omega, idx_nat]
     rw [idx_nat] at h2
     simpa using h2
    ·simp [h', h3]
def firstR {T E : Type} (o : Option E) (z : T) : T ⊕ E := match o with
  | some r => .inr r
  | none => .inl z
theorem first_loop {α S E T : Type} {step : S → Option (S ⊕ (T ⊕ E))} (l : List α) (enc : Nat → S) (g : α → Option E) (z : T)
  (h : ∀ (i : Nat) (a : α), l[i]? = some a → step (enc i) = some (match g a with | some r => .inr (.inr r) | none => .inl (enc (i + 1)))) (hend : step (enc l.length) = some (.inr (.inl z))) :
  loopO step (enc 0) = some (firstR (l.findSome? g) z) := by
 have key : ∀ (m : List α) (i : Nat), foldE (fun _ a (_ : Unit) => some (match g a with | some r => (.inr (.inr r) : Unit ⊕ (T ⊕ E)) | none => .inl ())) (fun _ => (.inl z : T ⊕ E)) i m () = some (firstR (m.findSome? g) z) := by
  intro m;induction m with
  | nil => intro i; rfl
  | cons a m ih =>
   intro i;simp only [foldE, List.findSome?_cons];cases g a with
   | none => exact ih (i + 1)
   | some r => rfl
 have := loop_list (step := step) l (fun i (_ : Unit) => enc i) (fun _ a _ => some (match g a with | some r => (.inr (.inr r) : Unit ⊕ (T ⊕ E)) | none => .inl ())) (fun _ => .inl z) (fun i a s hi => by
  rw [h i a hi];cases g a <;> rfl) (fun s => hend) ()
 rw [← key l 0]; exact this
def formB (n : List UInt8) : Bool := hpB n [43] && (digB (n.drop 1) 4 15 && ((((n.drop 1)[0]?.getD 0).toNat : Int) != 48))
theorem hp_len {x y : List UInt8} (h : hpB x y = true) : y.length ≤ x.length := by simp [hpB] at h; exact h.1
theorem sub_drop {α : Type} {l : List α} {k : Nat} (h : k ≤ l.length) : sub l (k : Int) (l.length : Int) = some (l.drop k) := by
 unfold sub;rw [if_pos (by omega)]; simp
theorem dig_len {x : List UInt8} {lo hi : Int} (h : digB x lo hi = true) : lo ≤ x.length ∧ (x.length : Int) ≤ hi := by
 simp only [digB, Bool.and_eq_true, decide_eq_true_eq] at h; exact h.1
theorem isnum_is (n : List UInt8) (hn : n.length ≤ 100000) : uF144 n = some (formB n) := by
 unfold uF144 formB;rw [cut_is];cases hp : hpB n [43]
 ·rfl
 ·simp only [if_true, Option.bind_some, cond_true, Bool.true_and, List.length_cons, List.length_nil, Nat.zero_add]
  rw [dig_is' _ _ _ (by simp; omega)];cases hd : digB (n.drop 1) 4 15
  ·rfl
  ·obtain ⟨h1, _⟩ := dig_len hd
   have : idx (n.drop 1) 0 = some ((n.drop 1)[0]?.getD 0) := by
    cases hq : n.drop 1 with
    | nil => rw [hq] at h1; simp at h1
    | cons a x => rfl
   simp only [Option.bind_some, cond_true, this, Bool.true_and]
theorem form_is (n : List UInt8) (hn : n.length ≤ 100000) : uF101 n = some (formB n) := by
 unfold uF101 formB;rw [hp_is];cases hp : hpB n [43]
 ·rfl
 ·have hl := hp_len hp
  have hl : 1 ≤ n.length := by simpa using hl
  have hs : sub n 1 (n.length : Int) = some (n.drop 1) := sub_drop (k := 1) hl;simp only [Option.bind_some, cond_true, Bool.true_and, hs];rw [dig_is _ _ _ (by simp; omega)];cases hd : digB (n.drop 1) 4 15
  ·rfl
  ·obtain ⟨h1, _⟩ := dig_len hd
   have : idx n 1 = some ((n.drop 1)[0]?.getD 0) := by
    match n, h1 with
    | [], h1 => simp at h1
    | [_], h1 => simp at h1
    | _ :: b :: x, _ => rfl
   simp only [Option.bind_some, cond_true, this, Bool.true_and]
def noParts : uT4 := ⟨[], [], []⟩
def areaR (c : uT0) (nat : List UInt8) (a : uT2) : uT4 × Int :=
  bif decide ((nat.length : Int) < a.Low) || decide ((nat.length : Int) > a.High) then (noParts, 1) else (⟨c.Code, a.Prefix, nat.drop a.Prefix.length⟩, 0)
def splitE (p : List uT0) (n : List UInt8) : uT4 × Int :=
  bif !formB n then (noParts, 3) else match p.find? (fun c => hpB (n.drop 1) c.Code) with
  | none => (noParts, 8)
  | some c => match c.Areas.find? (fun a => hpB (n.drop (1 + c.Code.length)) a.Prefix) with
    | none => (noParts, 8)
    | some a => areaR c (n.drop (1 + c.Code.length)) a
theorem form_at {n : List UInt8} (h : formB n = true) : ∃ m, n = 43 :: m ∧ 4 ≤ m.length ∧ m.length ≤ 15 := by
 simp only [formB, Bool.and_eq_true] at h;obtain ⟨h1, h2, _⟩ := h;obtain ⟨h3, h4⟩ := dig_len h2;cases n with
 | nil => simp at h3
 | cons a m =>
  have : a = 43 := by simpa [hpB] using h1
  subst this;exact ⟨m, rfl, by simp at h3; omega, by simp at h4; omega⟩
theorem split_is {p : List uT0} (hp : GoodP p) (n : List UInt8) (hn : n.length ≤ 100000) : ∃ x, uF91 p n = some x ∧ (x.1.Parts, x.2) = splitE p n := by
 unfold uF91 splitE;rw [isnum_is n hn];simp only [Option.bind_some];cases hf : formB n
 ·exact ⟨_, rfl, rfl⟩
 ·obtain ⟨m, rfl, hm, hm2⟩ := form_at hf
  simp only [Bool.not_true, cond_false];have h1 : uF148 p (fun a0 => uF156 a0 (43 :: m)) = some (idxI (fun c => hpB ((43 :: m).drop 1) c.Code) p) :=
   idxF_loop p _ _ (fun a _ => by
    unfold uF156;rw [show sub (43 :: m) 1 ((43 :: m).length : Int) = some ((43 :: m).drop 1) from sub_drop (k := 1) (by simp)];simp only [Option.bind_some, hp_is]) (by have := hp.1; omega)
  simp only [h1, Option.bind_some];rcases idx_find (fun c : uT0 => hpB ((43 :: m).drop 1) c.Code) p with ⟨i1, i2⟩ | ⟨i1, c, i2, i3, i4, i5⟩
  ·simp only [decide_eq_true i1, cond_true, i2]
   exact ⟨_, rfl, rfl⟩
  ·have i5 : hpB m c.Code = true := i5
   have hcl := hp_len i5;have hc := hp.2 c i4;have ws : sub (43 :: m) (IntKind.wrap .i64 (1 + (c.Code.length : Int))) ((43 :: m).length : Int) = some ((43 :: m).drop (1 + c.Code.length)) := by
    rw [w64 (by omega) (by omega), show (1 + (c.Code.length : Int)) = ((1 + c.Code.length : Nat) : Int) from by omega];exact sub_drop (by simp; omega)
   simp only [decide_eq_false (show ¬ idxI (fun c : uT0 => hpB ((43 :: m).drop 1) c.Code) p < 0 from by omega), cond_false, i2, i3, Option.bind_some, ws];generalize (43 :: m).drop (1 + c.Code.length) = nat;have h2 : uF157 c.Areas (fun a0 => uF158 a0 nat) = some (idxI (fun a => hpB nat a.Prefix) c.Areas) :=
    idxF_loop c.Areas _ _ (fun a _ => by simp [uF158, hp_is]) (by have := hc.2.2.2.1; omega)
   simp only [h2, Option.bind_some];rcases idx_find (fun a : uT2 => hpB nat a.Prefix) c.Areas with ⟨j1, j2⟩ | ⟨j1, a, j2, j3, j4, j5⟩
   ·simp only [decide_eq_true j1, cond_true, j2]
    exact ⟨_, rfl, rfl⟩
   ·have hal := hp_len j5
    simp only [decide_eq_false (show ¬ idxI (fun a : uT2 => hpB nat a.Prefix) c.Areas < 0 from by omega), cond_false, j2, j3, Option.bind_some, sub_drop hal];unfold areaR;cases decide ((nat.length : Int) < a.Low) || decide ((nat.length : Int) > a.High)
    ·exact ⟨_, rfl, rfl⟩
    ·exact ⟨_, rfl, rfl⟩
/- The reference. -/
theorem hp_cons (m y : List UInt8) (a : UInt8) : hpB (a :: m) (a :: y) = hpB m y := by
 simp [hpB]
theorem in_is (x lo hi : Int) : uF103 x lo hi = some (decide (lo ≤ x) && decide (x ≤ hi)) := by simp [uF103, bnd]
theorem ref_areas {c : uT0} (hc : GoodC c) (nat : List UInt8) (z : uT4) : loopO (fun s : Int × uT4 => uF37b c (nat, true) s.1 s.2) (0, z) =
  some (firstR (c.Areas.findSome? (fun a => if hpB nat a.Prefix = true then some (areaR c nat a) else none)) z) := by
 have hl := hc.2.2.2.1;exact first_loop (step := fun s : Int × uT4 => uF37b c (nat, true) s.1 s.2) c.Areas (fun i => ((i : Int), z)) (fun a => if hpB nat a.Prefix = true then some (areaR c nat a) else none) z (fun i a hi => by
  have hlt := (List.getElem?_eq_some_iff.1 hi).1;have hd : decide ((i : Int) < (c.Areas.length : Int)) = true := decide_eq_true (by omega);simp only [uF37b, hd, cond_true, idx_nat, hi, Option.bind_some, cut_is, in_is, w64 (n := (i : Int) + 1) (by omega) (by omega)];cases hb : hpB nat a.Prefix
  ·simp
  ·simp only [if_true, cond_true, Option.bind_some, areaR]
   have : (!(decide (a.Low ≤ (nat.length : Int)) && decide ((nat.length : Int) ≤ a.High))) = (decide ((nat.length : Int) < a.Low) || decide ((nat.length : Int) > a.High)) := by
    rw [Bool.not_and, ← decide_not, ← decide_not];congr 1 <;> exact decide_eq_decide.2 (by omega)
   rw [this];cases decide ((nat.length : Int) < a.Low) || decide ((nat.length : Int) > a.High) <;> rfl) (by simp [uF37b])
theorem find_some {α β : Type} (q : α → Bool) (r : α → β) : ∀ l : List α, l.findSome? (fun a => if q a = true then some (r a) else none) = (l.find? q).map r
 | [] => rfl
 | a :: l => by
  by_cases h : q a = true
  ·simp [h]
  ·have h' : q a = false := by simpa using h
   simp only [List.findSome?_cons, h', Bool.false_eq_true, if_false, List.find?_cons, find_some q r l]
def Apart (p : List uT0) : Prop := p.Pairwise fun a b => hpB a.Code b.Code = false ∧ hpB b.Code a.Code = false
theorem take_both {m x y : List UInt8} (h1 : hpB m x = true) (h2 : hpB m y = true) : hpB x y = true ∨ hpB y x = true := by
 simp only [hpB, Bool.and_eq_true, decide_eq_true_eq, beq_iff_eq] at h1 h2 ⊢;obtain ⟨a1, a2⟩ := h1;obtain ⟨b1, b2⟩ := h2;rcases Nat.le_total x.length y.length with h | h
 ·refine .inr ⟨h, ?_⟩
  rw [← b2, List.take_take, Nat.min_eq_left h]; exact a2
 ·refine .inl ⟨h, ?_⟩
  rw [← a2, List.take_take, Nat.min_eq_left h]; exact b2
theorem first_only {β : Type} (m : List UInt8) (g : uT0 → Option β) : ∀ p : List uT0, Apart p → p.findSome? (fun c => if hpB m c.Code = true then g c else none) = (p.find? (fun c => hpB m c.Code)).bind g
 | [], _ => rfl
 | c :: p, h => by
  obtain ⟨h1, h2⟩ := List.pairwise_cons.1 h
  by_cases hc : hpB m c.Code = true
  ·simp only [List.findSome?_cons, hc, if_true, List.find?_cons, Option.bind_some]
   have hn : p.findSome? (fun c => if hpB m c.Code = true then g c else none) = none := by
    rw [List.findSome?_eq_none_iff]
    intro b hb
    have : hpB m b.Code = false := by
     cases hq : hpB m b.Code
     ·rfl
     ·obtain ⟨a1, a2⟩ := h1 b hb
      rcases take_both hc hq with h | h
      ·rw [a1] at h; exact absurd h (by simp)
      ·rw [a2] at h; exact absurd h (by simp)
    simp [this]
   rw [hn]
   cases g c <;> rfl
  ·have hc' : hpB m c.Code = false := by simpa using hc
   simp only [List.findSome?_cons, hc', Bool.false_eq_true, if_false, List.find?_cons]
   exact first_only m g p h2
theorem ref_split {p : List uT0} (hp : GoodP p) (ha : Apart p) (n : List UInt8) (hn : n.length ≤ 100000) : uF37 p n = some (splitE p n) := by
 unfold uF37 splitE;rw [form_is n hn];simp only [Option.bind_some];cases hf : formB n
 ·rfl
 ·obtain ⟨m, rfl, hm, hm2⟩ := form_at hf
  simp only [Bool.not_true, cond_false];have hl := hp.1;have h := first_loop (step := fun s : Int × uT4 => uF37a p (43 :: m) s.1 s.2) p (fun i => ((i : Int), noParts)) (fun c => if hpB m c.Code = true then c.Areas.findSome? (fun a => if hpB ((43 :: m).drop (1 + c.Code.length)) a.Prefix = true then some (areaR c ((43 :: m).drop (1 + c.Code.length)) a) else none) else none) noParts (fun i c hi => by
   have hlt := (List.getElem?_eq_some_iff.1 hi).1;have hd : decide ((i : Int) < (p.length : Int)) = true := decide_eq_true (by omega);have hc := hp.2 c (List.mem_of_getElem? hi);have hs : sadd [43] c.Code = some (43 :: c.Code) := sadd_of (by have := hc.1; simp; omega);simp only [uF37a, hd, cond_true, idx_nat, hi, Option.bind_some, hs, cut_is, hp_cons, w64 (n := (i : Int) + 1) (by omega) (by omega)];cases hb : hpB m c.Code
   ·simp
   ·simp only [if_true, Bool.not_true, cond_false]
    rw [show (43 :: c.Code).length = 1 + c.Code.length from by simp; omega, ref_areas hc];cases c.Areas.findSome? (fun a => if hpB ((43 :: m).drop (1 + c.Code.length)) a.Prefix = true then some (areaR c ((43 :: m).drop (1 + c.Code.length)) a) else none) <;> simp [lret, firstR]) (by simp [uF37a])
  have h : loopO (fun s : Int × uT4 => uF37a p (43 :: m) s.1 s.2) ((0 : Int), (⟨[], [], []⟩ : uT4)) = _ := h;rw [h, first_only m _ p ha];simp only [show (43 :: m).drop 1 = m from rfl];cases p.find? (fun c => hpB m c.Code) with
  | none => rfl
  | some c =>
   simp only [Option.bind_some, find_some];cases c.Areas.find? (fun a => hpB ((43 :: m).drop (1 + c.Code.length)) a.Prefix) <;> rfl
theorem bl_trans : ∀ {x y z : List UInt8}, Op.bytesLess x y = true → Op.bytesLess y z = true → Op.bytesLess x z = true
 | _, _, [], _, h => by simp [Op.bytesLess] at h
 | _, [], _ :: _, h, _ => by simp [Op.bytesLess] at h
 | [], _ :: _, _ :: _, _, _ => by simp [Op.bytesLess]
 | a :: x, b :: y, c :: z, h1, h2 => by
  simp only [Op.bytesLess, Bool.or_eq_true, decide_eq_true_eq, Bool.and_eq_true, beq_iff_eq] at h1 h2 ⊢
  rcases h1 with h1 | ⟨rfl, h1⟩
  ·rcases h2 with h2 | ⟨rfl, _⟩
   ·exact .inl (UInt8.lt_trans h1 h2)
   ·exact .inl h1
  ·rcases h2 with h2 | ⟨rfl, h2⟩
   ·exact .inl h2
   ·exact .inr ⟨rfl, bl_trans h1 h2⟩
theorem bl_tot : ∀ {x y : List UInt8}, Op.bytesLess x y = false → (x == y) = false → Op.bytesLess y x = true
 | [], [], _, h => by simp at h
 | _ :: _, [], _, _ => by simp [Op.bytesLess]
 | [], _ :: _, h, _ => by simp [Op.bytesLess] at h
 | a :: x, b :: y, h, k => by
  simp only [Op.bytesLess, Bool.or_eq_true, decide_eq_true_eq, Bool.and_eq_true, beq_iff_eq]
  simp only [Op.bytesLess, Bool.or_eq_false_iff, decide_eq_false_iff_not, Bool.and_eq_false_iff, beq_eq_false_iff_ne] at h
  by_cases e : a = b
  ·subst e
   refine .inr ⟨rfl, bl_tot (h.2.resolve_left (fun q => q rfl)) ?_⟩
   simpa using k
  ·refine .inl ?_
   have h1 := h.1
   have : ¬ a.toNat < b.toNat := fun q => h1 (UInt8.lt_iff_toNat_lt.2 q)
   have h2 : a.toNat ≠ b.toNat := fun q => e (UInt8.toNat_inj.1 q)
   exact UInt8.lt_iff_toNat_lt.2 (by omega)
theorem bl_pre : ∀ {x y : List UInt8}, hpB x y = true → Op.bytesLess x y = false
 | _, [], _ => by simp [Op.bytesLess]
 | [], b :: y, h => by simp [hpB] at h
 | a :: x, b :: y, h => by
  have h' : a = b ∧ hpB x y = true := by
   simp only [hpB, Bool.and_eq_true, decide_eq_true_eq, beq_iff_eq, List.length_cons, List.take_succ_cons, List.cons.injEq] at h ⊢
   exact ⟨h.2.1, by omega, h.2.2⟩
  obtain ⟨rfl, h'⟩ := h'
  simp [Op.bytesLess, bl_pre h']
theorem code_facts {p : List uT0} {k : Nat} {c : uT0} (h : countryE p k c = 0) : (0 < k → Op.bytesLess c.Code (p[k - 1]?.getD c).Code = false ∧ (c.Code == (p[k - 1]?.getD c).Code) = false) ∧ (p.take k).any (fun o => hpB c.Code o.Code) = false := by
 unfold countryE at h;simp only [] at h;cases h1 : !digB c.Code 1 3 || (((c.Code[0]?.getD 0).toNat : Int) == 48) with
 | true => rw [h1] at h; simp at h
 | false =>
  rw [h1] at h;simp only [cond_false] at h;cases h2 : decide (0 < k) && (Op.bytesLess c.Code (p[k - 1]?.getD c).Code || c.Code == (p[k - 1]?.getD c).Code) with
  | true => rw [h2] at h; simp at h
  | false =>
   rw [h2] at h;simp only [cond_false] at h;refine ⟨fun h0 => ?_, ?_⟩
   ·rw [decide_eq_true h0, Bool.true_and, Bool.or_eq_false_iff] at h2; exact h2
   ·cases h3 : (p.take k).any (fun o => hpB c.Code o.Code) with
    | false => rfl
    | true => rw [h3] at h; simp at h
theorem apart_of {p : List uT0} (h : planE p = 0) : Apart p := by
 have h0 : errL (countryE p) 0 p = 0 := by
  unfold planE at h;split at h
  ·simp at h
  ·exact h
 have hf : ∀ (k : Nat) (hk : k < p.length), countryE p k p[k] = 0 := fun k hk => by
  have := errL_zero h0 k p[k] (by simp [hk])
  simpa using this
 have step : ∀ (k : Nat) (hk : k + 1 < p.length), Op.bytesLess (p[k]'(by omega)).Code p[k + 1].Code = true := fun k hk => by
  have := (code_facts (hf (k + 1) hk)).1 (by omega)
  simp only [Nat.add_sub_cancel, show k < p.length from by omega, getElem?_pos, Option.getD_some] at this;exact bl_tot this.1 this.2
 have chain : ∀ (d i : Nat) (hj : i + d + 1 < p.length), Op.bytesLess (p[i]'(by omega)).Code p[i + d + 1].Code = true := by
  intro d;induction d with
  | zero => intro i hj; exact step i hj
  | succ d ih =>
   intro i hj;exact bl_trans (ih i (by omega)) (step (i + d + 1) hj)
 unfold Apart;rw [List.pairwise_iff_getElem];intro i j hi hj hij;have hc := (code_facts (hf j hj)).2;have hl := chain (j - i - 1) i (by omega);have hl : Op.bytesLess p[i].Code p[j].Code = true := by
  have e : i + (j - i - 1) + 1 = j := by omega
  simpa only [e] using hl
 refine ⟨?_, ?_⟩
 ·cases hq : hpB p[i].Code p[j].Code
  ·rfl
  ·rw [bl_pre hq] at hl; simp at hl
 ·have := List.any_eq_false.1 hc p[i] (by
   rw [List.mem_take_iff_getElem];exact ⟨i, by omega, rfl⟩)
  simpa using this

/- What is drawn. -/
theorem some_in (s : uT1) (l : List (List UInt8)) (k : Int) (hs : SOk s k) (hk : k ≤ 1000000) (hl : 0 < l.length) (hl2 : l.length ≤ 1000) : ∃ r, uF51 s l = some (⟨s.L, s.at_ + 1⟩, r) ∧ r ∈ l := by
 obtain ⟨r, e, r1, r2⟩ := next_is s l.length k hs (by omega) (by omega) (by omega);obtain ⟨x, hx, hm⟩ := idx_of r1 r2;exact ⟨x, by simp [uF51, e, hx, bnd], hm⟩
theorem odd_is (s : uT1) (lo hi k : Int) (hs : SOk s k) (hk : k ≤ 100000) (h1 : lo ≤ hi) (h2 : -1000000 ≤ lo) (h3 : hi ≤ 1000000) : ∃ s' r, uF62 s lo hi = some (s', r) ∧ SOk s' (k + 2) ∧ -2000000000000 ≤ r ∧ r ≤ 2000000000000 := by
 obtain ⟨b, e⟩ := flip_is s 12 k hs (by omega) (by omega) (by omega);unfold uF62;rw [e];simp only [Option.bind_some];cases b
 ·obtain ⟨r, e2, r1, r2⟩ := range_is ⟨s.L, s.at_ + 1⟩ lo hi (k + 1) hs.one (by omega) h1 (by omega) (by omega)
  refine ⟨⟨s.L, s.at_ + 1 + 1⟩, r, by simp only [cond_false, e2, Option.bind_some], by have := hs.one.one; rwa [show k + 1 + 1 = k + 2 from by omega] at this, by omega, by omega⟩
 ·obtain ⟨r, e2, hr⟩ := pick_in ⟨s.L, s.at_ + 1⟩ [(IntKind.wrap .i64 (lo - 1)), (IntKind.wrap .i64 (hi + 1)), lo, hi, -1099511627776, 1099511627776] (k + 1) hs.one (by omega) (by simp) (by simp)
  refine ⟨⟨s.L, s.at_ + 1 + 1⟩, r, by simp only [cond_true, e2, Option.bind_some], by have := hs.one.one; rwa [show k + 1 + 1 = k + 2 from by omega] at this, ?_⟩;rw [w64 (by omega) (by omega), w64 (by omega) (by omega)] at hr;simp only [List.mem_cons, List.not_mem_nil, or_false] at hr;rcases hr with rfl | rfl | rfl | rfl | rfl | rfl <;> omega

def SmallC (c : uT0) : Prop := c.Code.length ≤ 10 ∧ c.Abroad.length ≤ 10 ∧ c.Trunk.length ≤ 10 ∧ (1 ≤ c.Areas.length ∧ c.Areas.length ≤ 10) ∧ ∀ a ∈ c.Areas, a.Prefix.length ≤ 10 ∧ -2000000000000 ≤ a.Low ∧ a.Low ≤ 2000000000000 ∧ -2000000000000 ≤ a.High ∧ a.High ≤ 2000000000000
def SmallP (p : List uT0) : Prop := p.length = 3 ∧ ∀ c ∈ p, SmallC c
theorem SmallP.good {p : List uT0} (h : SmallP p) : GoodP p := by
 refine ⟨by have := h.1; omega, fun c hc => ?_⟩;obtain ⟨h1, h2, h3, h4, h5⟩ := h.2 c hc;refine ⟨by omega, by omega, by omega, by have := h4.2; omega, fun a ha => ?_⟩;obtain ⟨g1, g2, g3, g4, g5⟩ := h5 a ha;exact ⟨by omega, by omega, by omega, by omega, by omega⟩
theorem small_len {l : List (List UInt8)} (h : l.all (fun x => decide (x.length ≤ 10)) = true) {x : List UInt8} (hx : x ∈ l) : x.length ≤ 10 := by
 have := List.all_eq_true.1 h x hx; simpa using this
theorem cnl_small {s1 s2 : List UInt8} (h1 : s1.length ≤ 10) (h2 : s2.length ≤ 10) : SmallP (cnl s1 s2) := by
 refine ⟨rfl, fun c hc => ?_⟩;simp only [cnl, List.mem_cons, List.not_mem_nil, or_false] at hc;rcases hc with rfl | rfl | rfl
 ·refine ⟨by simp, by simp, h1, by simp [cnA0], fun a ha => ?_⟩
  simp only [cnA0, List.mem_cons, List.not_mem_nil, or_false] at ha;rcases ha with rfl | rfl <;> simp
 ·refine ⟨by simp, by simp, by simp, by simp [cnA1], fun a ha => ?_⟩
  simp only [cnA1, List.mem_cons, List.not_mem_nil, or_false] at ha;rcases ha with rfl | rfl | rfl <;> simp
 ·refine ⟨by simp, h2, by simp, by simp [cnA2], fun a ha => ?_⟩
  simp only [cnA2, List.mem_cons, List.not_mem_nil, or_false] at ha;rcases ha with rfl | rfl <;> simp
theorem cnl_areas (s1 s2 : List UInt8) : ∀ c ∈ cnl s1 s2, 1 ≤ c.Areas.length ∧ c.Areas.length ≤ 3 := by
 intro c hc;simp only [cnl, List.mem_cons, List.not_mem_nil, or_false] at hc;rcases hc with rfl | rfl | rfl <;> simp [cnA0, cnA1, cnA2]
theorem small_set {p : List uT0} (h : SmallP p) {c : uT0} (hc : SmallC c) (k : Nat) : SmallP (p.set k c) := by
 refine ⟨by simp [h.1], fun b hb => ?_⟩;rcases List.mem_or_eq_of_mem_set hb with hb | rfl
 ·exact h.2 b hb
 ·exact hc
theorem right_is (s : uT1) (k : Int) (hs : SOk s k) (hk : k ≤ 1000) : ∃ s1 s2, uF81 s = some (⟨s.L, s.at_ + 1 + 1⟩, cnl s1 s2) ∧ s1.length ≤ 10 ∧ s2.length ≤ 10 := by
 obtain ⟨s1, e1, m1⟩ := some_in s [([49] : List UInt8), ([49] : List UInt8), ([] : List UInt8)] k hs (by omega) (by simp) (by simp);obtain ⟨s2, e2, m2⟩ := some_in ⟨s.L, s.at_ + 1⟩ [([48, 48] : List UInt8), ([48] : List UInt8)] (k + 1) hs.one (by omega) (by simp) (by simp);refine ⟨s1, s2, ?_, small_len (by decide) m1, small_len (by decide) m2⟩;unfold uF81;simp only [e1, e2, Option.bind_some];rfl
theorem countries_is (s : uT1) (k : Int) (hs : SOk s k) (hk : k ≤ 1000) : ∃ s' p, uF25 s = some (s', p) ∧ SOk s' (k + 12) ∧ SmallP p := by
 obtain ⟨s1, s2, e1, h1, h2⟩ := right_is s k hs hk;have hp := cnl_small h1 h2;have har := cnl_areas s1 s2;generalize cnl s1 s2 = p at e1 hp har;have o2 := hs.one.one;obtain ⟨b, e3⟩ := flip_is ⟨s.L, s.at_ + 1 + 1⟩ 12 (k + 1 + 1) o2 (by omega) (by omega) (by omega);have o3 := o2.one;unfold uF25;simp only [e1, e3, Option.bind_some];cases b
 ·exact ⟨_, p, rfl, o3.up (by omega), hp⟩
 ·simp only [cond_true]
  obtain ⟨n, e4, n1, n2⟩ := next_is ⟨s.L, s.at_ + 1 + 1 + 1⟩ 3 (k + 1 + 1 + 1) o3 (by omega) (by omega) (by omega);have o4 := o3.one;obtain ⟨w, e5, w1, w2⟩ := next_is ⟨s.L, s.at_ + 1 + 1 + 1 + 1⟩ 6 (k + 1 + 1 + 1 + 1) o4 (by omega) (by omega) (by omega);have o5 := o4.one;obtain ⟨c, ec, hcm⟩ := idx_of (l := p) n1 (by have := hp.1; omega);obtain ⟨c1, c2, c3, c4, c5⟩ := hp.2 c hcm;simp only [e4, e5, ec, Option.bind_some];generalize ht : (⟨s.L, s.at_ + 1 + 1 + 1 + 1 + 1⟩ : uT1) = t at o5;have some_ : ∀ (l : List (List UInt8)), 0 < l.length → l.length ≤ 1000 → l.all (fun x => decide (x.length ≤ 10)) = true → ∃ r, uF51 t l = some (⟨t.L, t.at_ + 1⟩, r) ∧ r.length ≤ 10 := fun l g1 g2 g3 => by
   obtain ⟨r, er, hr⟩ := some_in t l _ o5 (by omega) g1 g2;exact ⟨r, er, small_len g3 hr⟩
  have o6 := o5.one;cases w == 0
  ·simp only [cond_false]
   cases w == 1
   ·simp only [cond_false]
    cases w == 2
    ·simp only [cond_false]
     cases w == 3
     ·simp only [cond_false]
      cases w == 4
      ·simp only [cond_false]
       refine ⟨_, _, rfl, o5.up (by omega), ⟨by simp [hp.1], fun b hb => hp.2 b (by simpa using hb)⟩⟩
      ·simp only [cond_true]
       obtain ⟨t1, lo, el, ol, l1, l2⟩ := odd_is t 1 6 _ o5 (by omega) (by omega) (by omega) (by omega);obtain ⟨t2, hi, eh, oh, g1, g2⟩ := odd_is t1 3 14 _ ol (by omega) (by omega) (by omega) (by omega);simp only [el, eh, Option.bind_some];cases hA : c.Areas with
       | nil => have := (har c hcm).1; rw [hA] at this; simp at this
       | cons a l =>
        refine ⟨_, _, rfl, oh.up (by omega), small_set hp (c := { c with Areas := { a with Low := lo, High := hi } :: l }) ⟨c1, c2, c3, ?_, ?_⟩ _⟩
        ·rw [hA] at c4; simpa using c4
        ·intro b hb
         simp only [List.mem_cons] at hb;rcases hb with rfl | hb
         ·have := c5 a (by rw [hA]; simp)
          exact ⟨this.1, l1, l2, g1, g2⟩
         ·exact c5 b (by rw [hA]; simp [hb])
     ·simp only [cond_true]
      obtain ⟨r, er, hr⟩ := some_ [([] : List UInt8), [56, 57, 49], [57, 57], [48], [49, 50, 51, 52, 53, 54, 55, 56, 57], [51, 48]] (by simp) (by simp) (by decide);obtain ⟨lo, el, hl⟩ := pick_in ⟨t.L, t.at_ + 1⟩ [3, 2, 9] _ o6 (by omega) (by simp) (by simp);obtain ⟨hi, eh, hh⟩ := pick_in ⟨t.L, t.at_ + 1 + 1⟩ [9, 2, 14] _ o6.one (by omega) (by simp) (by simp);simp only [er, el, eh, Option.bind_some];refine ⟨_, _, rfl, o6.one.one.up (by omega), small_set hp (c := { c with Areas := c.Areas ++ [⟨r, lo, hi⟩] }) ⟨c1, c2, c3, ?_, ?_⟩ _⟩
      ·have := (har c hcm).2; simp only [List.length_append, List.length_cons, List.length_nil]; omega
      ·intro b hb
       simp only [List.mem_append, List.mem_cons, List.not_mem_nil, or_false] at hb;rcases hb with hb | rfl
       ·exact c5 b hb
       ·simp only [List.mem_cons, List.not_mem_nil, or_false] at hl hh
        exact ⟨hr, by simp only []; omega, by simp only []; omega, by simp only []; omega, by simp only []; omega⟩
    ·simp only [cond_true]
     obtain ⟨r, er, hr⟩ := some_ [([48, 48, 48] : List UInt8), [48, 48], [120], [51]] (by simp) (by simp) (by decide);simp only [er, Option.bind_some];exact ⟨_, _, rfl, o6.up (by omega), small_set hp (c := { c with Trunk := r }) ⟨c1, c2, hr, c4, c5⟩ _⟩
   ·simp only [cond_true]
    obtain ⟨r, er, hr⟩ := some_ [([] : List UInt8), [48, 48, 48, 48, 48], [120], [48], [51], [48, 51], [48, 51, 48]] (by simp) (by simp) (by decide);simp only [er, Option.bind_some];exact ⟨_, _, rfl, o6.up (by omega), small_set hp (c := { c with Abroad := r }) ⟨c1, hr, c3, c4, c5⟩ _⟩
  ·simp only [cond_true]
   obtain ⟨r, er, hr⟩ := some_ [([] : List UInt8), [48], [52], [49, 50, 51, 52], [97], [52, 57]] (by simp) (by simp) (by decide);simp only [er, Option.bind_some];exact ⟨_, _, rfl, o6.up (by omega), small_set hp (c := { c with Code := r }) ⟨hr, c2, c3, c4, c5⟩ _⟩
theorem range_w (s : uT1) (lo hi k : Int) (hs : SOk s k) (hk : k ≤ 100000) (h2 : -4000000000000 ≤ lo) (h2' : lo ≤ 4000000000000) (h3 : hi ≤ 4000000000000) :
  ∃ s' r, uF61 s lo hi = some (s', r) ∧ SOk s' (k + 1) ∧ lo ≤ r ∧ (r ≤ hi ∨ r ≤ lo) := by
 by_cases hlt : hi < lo
 ·exact ⟨s, lo, by simp [uF61, hlt], hs.up (by omega), by omega, .inr (by omega)⟩
 ·obtain ⟨r, e, r1, r2⟩ := next_is s (hi - lo + 1) k hs (by omega) (by omega) (by omega)
  refine ⟨⟨s.L, s.at_ + 1⟩, lo + r, ?_, hs.one, by omega, .inl (by omega)⟩;simp (disch := omega) [uF61, hlt, w64, e, bnd]
theorem only_one {α β : Type} (q : α → Bool) (g : α → Option β) : ∀ p : List α, p.Pairwise (fun a b => ¬ (q a = true ∧ q b = true)) → p.findSome? (fun c => if q c = true then g c else none) = (p.find? q).bind g
 | [], _ => rfl
 | c :: p, h => by
  obtain ⟨h1, h2⟩ := List.pairwise_cons.1 h
  by_cases hc : q c = true
  ·simp only [List.findSome?_cons, hc, if_true, List.find?_cons, Option.bind_some]
   have hn : p.findSome? (fun c => if q c = true then g c else none) = none := by
    rw [List.findSome?_eq_none_iff]
    intro b hb
    have : ¬ q b = true := fun hq => h1 b hb ⟨hc, hq⟩
    simp [this]
   rw [hn]
   cases g c <;> rfl
  ·have hc' : q c = false := by simpa using hc
   simp only [List.findSome?_cons, hc', Bool.false_eq_true, if_false, List.find?_cons]
   exact only_one q g p h2
theorem hp_self (x : List UInt8) : hpB x x = true := by simp [hpB]
theorem Apart.code {p : List uT0} (h : Apart p) (k : List UInt8) : p.Pairwise (fun a b => ¬ ((a.Code == k) = true ∧ (b.Code == k) = true)) := by
 refine h.imp fun {a b} hab hk => ?_;obtain ⟨h1, h2⟩ := hk;rw [beq_iff_eq] at h1 h2
 have := hab.1
 rw [h1, h2, hp_self] at this;simp at this
def noC : uT0 := ⟨[], [], [], []⟩
def noA : uT2 := ⟨[], 0, 0⟩
def homeR (p : List uT0) (h : uT3) : uT0 × uT2 × Int := match p.find? (fun c => c.Code == h.Country) with
  | none => (noC, noA, 8)
  | some c => if (h.Area == []) = true then (c, noA, 0) else match c.Areas.find? (fun a => a.Prefix == h.Area) with
    | none => (noC, noA, 8)
    | some a => (c, a, 0)
theorem home_l1 {c : uT0} (hc : GoodC c) (h : uT3) (z : uT0 × uT2) : loopO (fun s : Int × uT0 × uT2 => uF155a h c s.1 s.2.1 s.2.2) (0, z) =
  some (firstR (c.Areas.findSome? (fun a => if (a.Prefix == h.Area) = true then some (c, a, (0 : Int)) else none)) z) := by
 have hl := hc.2.2.2.1;exact first_loop (step := fun s : Int × uT0 × uT2 => uF155a h c s.1 s.2.1 s.2.2) c.Areas (fun i => ((i : Int), z)) (fun a => if (a.Prefix == h.Area) = true then some (c, a, (0 : Int)) else none) z (fun i a hi => by
  have hlt := (List.getElem?_eq_some_iff.1 hi).1;have hd : decide ((i : Int) < (c.Areas.length : Int)) = true := decide_eq_true (by omega);simp only [uF155a, hd, cond_true, idx_nat, hi, Option.bind_some, w64 (n := (i : Int) + 1) (by omega) (by omega)];cases a.Prefix == h.Area <;> simp) (by simp [uF155a])
theorem home_is {p : List uT0} (hp : GoodP p) (ha : Apart p) (h : uT3) : uF155b p h = some (homeR p h) := by
 have hl := hp.1;have hloop := first_loop (step := fun s : Int × uT0 × uT2 => uF155 p h s.1 s.2.1 s.2.2) p (fun i => ((i : Int), noC, noA)) (fun c => if (c.Code == h.Country) = true then (if (h.Area == []) = true then some (c, noA, (0 : Int)) else c.Areas.findSome? (fun a => if (a.Prefix == h.Area) = true then some (c, a, (0 : Int)) else none)) else none) (noC, noA) (fun i c hi => by
  have hlt := (List.getElem?_eq_some_iff.1 hi).1;have hd : decide ((i : Int) < (p.length : Int)) = true := decide_eq_true (by omega);have hc := hp.2 c (List.mem_of_getElem? hi);simp only [uF155, hd, cond_true, idx_nat, hi, Option.bind_some, w64 (n := (i : Int) + 1) (by omega) (by omega)];cases c.Code == h.Country
  ·simp
  ·simp only [Bool.not_true, cond_false, if_true]
   cases h.Area == []
   ·simp only [cond_false, Bool.false_eq_true, if_false]
    rw [home_l1 hc h (noC, noA)];cases c.Areas.findSome? (fun a => if (a.Prefix == h.Area) = true then some (c, a, (0 : Int)) else none) <;> simp [lret, firstR]
   ·simp only [cond_true, if_true]; rfl) (by simp [uF155])
 have hloop : loopO (fun s : Int × uT0 × uT2 => uF155 p h s.1 s.2.1 s.2.2) ((0 : Int), (⟨[], [], [], []⟩ : uT0), (⟨[], 0, 0⟩ : uT2)) = _ := hloop;unfold uF155b homeR;rw [hloop, only_one (fun c : uT0 => c.Code == h.Country) _ p (ha.code _)];cases p.find? (fun c => c.Code == h.Country) with
 | none => rfl
 | some c =>
  simp only [Option.bind_some];cases h.Area == []
  ·simp only [Bool.false_eq_true, if_false, find_some]
   cases c.Areas.find? (fun a => a.Prefix == h.Area) <;> rfl
  ·rfl
theorem open_is {p : List uT0} (hp : GoodP p) (h : uT3) : uF90 p h = some (if planE p = 0 then homeR p h else (noC, noA, planE p)) := by
 unfold uF90;rw [check_plan hp];simp only [Option.bind_some];by_cases e : planE p = 0
 ·rw [e]
  simp only [bne_self_eq_false, cond_false, if_true, home_is hp (apart_of e), Option.bind_some]
 ·have : (planE p != 0) = true := by simpa using e
  simp only [this, cond_true, e, if_false]; rfl
theorem at_is {p : List uT0} (hp : GoodP p) (k : List UInt8) : uF97 p k = some (idxI (fun c => c.Code == k) p) := by
 have h : uF148 p (fun a0 => uF162 a0 k) = some (idxI (fun c => c.Code == k) p) :=
  idxF_loop p _ _ (fun a _ => by simp [uF162, bnd]) (by have := hp.1; omega)
 unfold uF97;simp only [h, Option.bind_some]
theorem fault_home {p : List uT0} (hp : GoodP p) (h : uT3) : uF34 p h = some (homeR p h).2.2 := by
 unfold uF34 homeR;rw [at_is hp];simp only [Option.bind_some];rcases idx_find (fun c : uT0 => c.Code == h.Country) p with ⟨i1, i2⟩ | ⟨i1, c, i2, i3, i4, i5⟩
 ·simp only [decide_eq_true i1, cond_true, Option.bind_some, i2]
 ·have hc := hp.2 c i4
  simp only [decide_eq_false (show ¬ idxI (fun c : uT0 => c.Code == h.Country) p < 0 from by omega), cond_false, i2, i3, Option.bind_some];cases h.Area == []
  ·have hany : uF98 c.Areas (fun a0 => uF99 a0 h) = some (c.Areas.any fun a => a.Prefix == h.Area) := by
    have h1 : uF157 c.Areas (fun a0 => uF99 a0 h) = some (idxI (fun a => a.Prefix == h.Area) c.Areas) :=
     idxF_loop c.Areas _ _ (fun a _ => by simp [uF99, bnd]) (by have := hc.2.2.2.1; omega)
    unfold uF98;simp only [h1, Option.bind_some, bnd, idxI_any]
   simp only [Bool.not_false, cond_true, hany, Option.bind_some, Bool.false_eq_true, if_false];cases hf : c.Areas.find? (fun a => a.Prefix == h.Area) with
   | none =>
    have : c.Areas.any (fun a => a.Prefix == h.Area) = false := by
     rw [List.any_eq_false]; intro a ha; have := List.find?_eq_none.1 hf a ha; simpa using this
    rw [this]; rfl
   | some a =>
    have : c.Areas.any (fun a => a.Prefix == h.Area) = true := by
     rw [List.any_eq_true];exact ⟨a, List.mem_of_find?_eq_some hf, List.find?_some (p := fun a : uT2 => a.Prefix == h.Area) hf⟩
    rw [this]; rfl
  ·rfl
def goE (p : List uT0) (n : List UInt8) : List UInt8 × Int := if (splitE p n).2 = 0 then (n, 0) else ([], (splitE p n).2)
def reachE (p : List uT0) (c : uT0) (h : uT3) (d : List UInt8) : List UInt8 × Int :=
  bif !digB d 1 30 then ([], 3)
  else bif hpB d c.Abroad then goE p (43 :: d.drop c.Abroad.length)
  else bif hpB d c.Trunk then goE p (43 :: (c.Code ++ d.drop c.Trunk.length))
  else bif !(h.Area == []) then goE p (43 :: (c.Code ++ (h.Area ++ d))) else ([], 8)
theorem go_is {p : List uT0} (hp : GoodP p) (n : List UInt8) (hn : n.length ≤ 100000) : ((uF91 p n).bind fun y => bif y.2 != 0 then some (([] : List UInt8), y.2) else some (n, (0 : Int))) = some (goE p n) := by
 obtain ⟨x, e1, e2⟩ := split_is hp n hn;have e3 : x.2 = (splitE p n).2 := by rw [← e2]
 simp only [e1, Option.bind_some, goE, e3];by_cases h : (splitE p n).2 = 0
 ·simp [h]
 ·have : ((splitE p n).2 != 0) = true := by simpa using h
  simp only [this, cond_true, h, if_false]
theorem go_ref {p : List uT0} (hp : GoodP p) (ha : Apart p) (n : List UInt8) (hn : n.length ≤ 100000) : ((uF37 p n).bind fun y => bif y.2 != 0 then some (([] : List UInt8), y.2) else some (n, (0 : Int))) = some (goE p n) := by
 simp only [ref_split hp ha n hn, Option.bind_some, goE];by_cases h : (splitE p n).2 = 0
 ·simp [h]
 ·have : ((splitE p n).2 != 0) = true := by simpa using h
  simp only [this, cond_true, h, if_false]
theorem reach_is {p : List uT0} (hp : GoodP p) {c : uT0} (hcc : c.Code.length ≤ 100) (h : uT3) (hh : h.Area.length ≤ 100) (d : List UInt8) (hd : d.length ≤ 1000) : uF93 p c h d = some (reachE p c h d) := by
 unfold uF93 reachE;simp only [bnd, dig_is' d 1 30 (by omega), Option.bind_some, cut_is];cases digB d 1 30
 ·rfl
 ·simp only [Bool.not_true, cond_false]
  cases hpB d c.Abroad
  ·simp only [Bool.false_eq_true, if_false, cond_false]
   cases hpB d c.Trunk
   ·simp only [Bool.false_eq_true, if_false, cond_false]
    cases h.Area == []
    ·have s1 : sadd [43] c.Code = some (43 :: c.Code) := sadd_of (by simp; omega)
     have s2 : sadd (43 :: c.Code) h.Area = some (43 :: c.Code ++ h.Area) := sadd_of (by simp; omega);have s3 : sadd (43 :: c.Code ++ h.Area) d = some (43 :: (c.Code ++ (h.Area ++ d))) := by rw [sadd_of (by simp; omega)]; simp
     simp only [Bool.not_false, cond_true, s1, s2, s3, Option.bind_some];exact go_is hp _ (by simp; omega)
    ·rfl
   ·have s1 : sadd [43] c.Code = some (43 :: c.Code) := sadd_of (by simp; omega)
    have s2 : sadd (43 :: c.Code) (d.drop c.Trunk.length) = some (43 :: (c.Code ++ d.drop c.Trunk.length)) := sadd_of (by simp; omega);simp only [if_true, cond_true, s1, s2, Option.bind_some];exact go_is hp _ (by simp; omega)
  ·have s1 : sadd [43] (d.drop c.Abroad.length) = some (43 :: d.drop c.Abroad.length) := sadd_of (by simp; omega)
   simp only [if_true, cond_true, s1, Option.bind_some];exact go_is hp _ (by simp; omega)
theorem reach_ref {p : List uT0} (hp : GoodP p) (ha : Apart p) {c : uT0} (h : uT3) (hf : p.find? (fun c => c.Code == h.Country) = some c) (hcc : c.Code.length ≤ 100) (hh : h.Area.length ≤ 100) (d : List UInt8) (hd : d.length ≤ 1000) : uF48 p h d = some (reachE p c h d) := by
 have hidx : idx p (idxI (fun c => c.Code == h.Country) p) = some c := by
  rcases idx_find (fun c : uT0 => c.Code == h.Country) p with ⟨i1, i2⟩ | ⟨i1, c', i2, i3, i4, i5⟩
  ·rw [i2] at hf; simp at hf
  ·rw [i3] at hf; rw [i2]; exact hf
 unfold uF48 reachE;simp only [bnd, dig_is d 1 30 (by omega), Option.bind_some, at_is hp, hidx, hp_is];cases digB d 1 30
 ·rfl
 ·simp only [Bool.not_true, cond_false]
  cases h1 : hpB d c.Abroad
  ·simp only [cond_false]
   cases h2 : hpB d c.Trunk
   ·simp only [cond_false]
    cases h.Area == []
    ·have s1 : sadd [43] c.Code = some (43 :: c.Code) := sadd_of (by simp; omega)
     have s2 : sadd (43 :: c.Code) h.Area = some (43 :: c.Code ++ h.Area) := sadd_of (by simp; omega);have s3 : sadd (43 :: c.Code ++ h.Area) d = some (43 :: (c.Code ++ (h.Area ++ d))) := by rw [sadd_of (by simp; omega)]; simp
     simp only [Bool.not_false, cond_true, s1, s2, s3, Option.bind_some];exact go_ref hp ha _ (by simp; omega)
    ·rfl
   ·have s0 : sub d (c.Trunk.length : Int) (d.length : Int) = some (d.drop c.Trunk.length) := sub_drop (hp_len h2)
    have s1 : sadd [43] c.Code = some (43 :: c.Code) := sadd_of (by simp; omega);have s2 : sadd (43 :: c.Code) (d.drop c.Trunk.length) = some (43 :: (c.Code ++ d.drop c.Trunk.length)) := sadd_of (by simp; omega);simp only [cond_true, s0, s1, s2, Option.bind_some];exact go_ref hp ha _ (by simp; omega)
  ·have s0 : sub d (c.Abroad.length : Int) (d.length : Int) = some (d.drop c.Abroad.length) := sub_drop (hp_len h1)
   have s1 : sadd [43] (d.drop c.Abroad.length) = some (43 :: d.drop c.Abroad.length) := sadd_of (by simp; omega);simp only [cond_true, s0, s1, Option.bind_some];exact go_ref hp ha _ (by simp; omega)
def faultE (p : List uT0) (h : uT3) : Int := if planE p = 0 then (homeR p h).2.2 else planE p
theorem open_ok {p : List uT0} {h : uT3} (hf : faultE p h = 0) : planE p = 0 ∧ ∃ c a, homeR p h = (c, a, 0) ∧ p.find? (fun c => c.Code == h.Country) = some c := by
 unfold faultE at hf;split at hf
 ·rename_i h0
  refine ⟨h0, ?_⟩;unfold homeR at hf ⊢;cases hq : p.find? (fun c => c.Code == h.Country) with
  | none => rw [hq] at hf; simp at hf
  | some c =>
   rw [hq] at hf;simp only [] at hf ⊢;split at hf
   ·rename_i e; rw [if_pos e]; exact ⟨c, noA, rfl, rfl⟩
   ·rename_i e; rw [if_neg e]
    cases hg : c.Areas.find? (fun a => a.Prefix == h.Area) with
    | none => rw [hg] at hf; simp at hf
    | some a => exact ⟨c, a, rfl, rfl⟩
 ·rename_i h0; exact absurd hf h0
theorem open_bad {p : List uT0} (hp : GoodP p) {h : uT3} (hf : faultE p h ≠ 0) : ∃ c a, uF90 p h = some (c, a, faultE p h) := by
 rw [open_is hp];unfold faultE at hf ⊢;split
 ·exact ⟨_, _, rfl⟩
 ·exact ⟨_, _, rfl⟩
theorem home_draw (s : uT1) (k : Int) (hs : SOk s k) (hk : k ≤ 1000) : ∃ s' h, uF26 s = some (s', h) ∧ SOk s' (k + 3) ∧ h.Area.length ≤ 10 := by
 obtain ⟨b, e1⟩ := flip_is s 20 k hs (by omega) (by omega) (by omega);have o1 := hs.one;unfold uF26;simp only [e1, Option.bind_some];cases b
 ·obtain ⟨i, e2, i1, i2⟩ := next_is ⟨s.L, s.at_ + 1⟩ 8 (k + 1) o1 (by omega) (by omega) (by omega)
  obtain ⟨h, eh, hm⟩ := idx_of (l := ([(⟨([52, 57] : List UInt8), ([51, 48] : List UInt8)⟩ : uT3), (⟨([52, 57] : List UInt8), ([51, 48] : List UInt8)⟩ : uT3), (⟨([52, 57] : List UInt8), ([52] : List UInt8)⟩ : uT3), (⟨([52, 57] : List UInt8), ([] : List UInt8)⟩ : uT3), (⟨([49] : List UInt8), ([50, 48] : List UInt8)⟩ : uT3), (⟨([49] : List UInt8), ([] : List UInt8)⟩ : uT3), (⟨([53, 53] : List UInt8), ([49] : List UInt8)⟩ : uT3), (⟨([53, 53] : List UInt8), ([] : List UInt8)⟩ : uT3)] : List uT3)) i1 i2;simp only [cond_false, e2, eh, Option.bind_some];refine ⟨_, h, rfl, o1.one.up (by omega), ?_⟩;simp only [List.mem_cons, List.not_mem_nil, or_false] at hm;rcases hm with rfl | rfl | rfl | rfl | rfl | rfl | rfl | rfl <;> simp
 ·obtain ⟨a, e2, ha⟩ := some_in ⟨s.L, s.at_ + 1⟩ [([52, 57] : List UInt8), ([57] : List UInt8), ([] : List UInt8)] (k + 1) o1 (by omega) (by simp) (by simp)
  obtain ⟨c, e3, hc⟩ := some_in ⟨s.L, s.at_ + 1 + 1⟩ [([50, 48] : List UInt8), ([51] : List UInt8), ([120] : List UInt8)] (k + 1 + 1) o1.one (by omega) (by simp) (by simp);simp only [cond_true, e2, e3, Option.bind_some];exact ⟨_, _, rfl, o1.one.one.up (by omega), small_len (by decide) hc⟩
theorem area_facts {p : List uT0} (h : planE p = 0) {c : uT0} (hc : c ∈ p) {a : uT2} (ha : a ∈ c.Areas) : (a.Prefix.length : Int) < a.Low ∧ a.Low ≤ a.High ∧ a.High ≤ 15 - (c.Code.length : Int) := by
 have h0 : errL (countryE p) 0 p = 0 := by
  unfold planE at h;split at h
  ·simp at h
  ·exact h
 obtain ⟨i, hi⟩ := List.mem_iff_getElem?.1 hc;have h1 := errL_zero h0 i c hi;have h2 : errL (areaE c) 0 c.Areas = 0 := by
  unfold countryE at h1;simp only [] at h1;cases q1 : !digB c.Code 1 3 || (((c.Code[0]?.getD 0).toNat : Int) == 48) with
  | true => rw [q1] at h1; simp at h1
  | false =>
   rw [q1] at h1; simp only [cond_false] at h1;cases q2 : decide (0 < 0 + i) && (Op.bytesLess c.Code (p[0 + i - 1]?.getD c).Code || c.Code == (p[0 + i - 1]?.getD c).Code) with
   | true => rw [q2] at h1; simp at h1
   | false =>
    rw [q2] at h1; simp only [cond_false] at h1;cases q3 : (p.take (0 + i)).any (fun o => hpB c.Code o.Code) with
    | true => rw [q3] at h1; simp at h1
    | false =>
     rw [q3] at h1; simp only [cond_false] at h1;cases q4 : (!digB c.Abroad 1 4 || !digB c.Trunk 0 2) || hpB c.Trunk c.Abroad with
     | true => rw [q4] at h1; simp at h1
     | false =>
      rw [q4] at h1; simp only [cond_false] at h1;cases q5 : decide ((c.Areas.length : Int) > 300) with
      | true => rw [q5] at h1; simp at h1
      | false => rw [q5] at h1; simpa using h1
 obtain ⟨j, hj⟩ := List.mem_iff_getElem?.1 ha;have h3 := errL_zero h2 j a hj;unfold areaE at h3;simp only [] at h3;cases q1 : !digB a.Prefix 1 8 with
 | true => rw [q1] at h3; simp at h3
 | false =>
  rw [q1] at h3; simp only [cond_false] at h3;cases q2 : decide (0 < 0 + j) && (Op.bytesLess a.Prefix (c.Areas[0 + j - 1]?.getD a).Prefix || a.Prefix == (c.Areas[0 + j - 1]?.getD a).Prefix) with
  | true => rw [q2] at h3; simp at h3
  | false =>
   rw [q2] at h3; simp only [cond_false] at h3;cases q3 : (decide (0 < 0 + j) && hpB a.Prefix (c.Areas[0 + j - 1]?.getD a).Prefix) || (hpB (c.Trunk ++ a.Prefix) c.Abroad || hpB c.Abroad (c.Trunk ++ a.Prefix)) with
   | true => rw [q3] at h3; simp at h3
   | false =>
    rw [q3] at h3; simp only [cond_false] at h3;cases q4 : ((decide (a.Low ≤ (a.Prefix.length : Int)) || decide (a.Low > a.High)) || decide (a.High > 15 - (c.Code.length : Int))) || decide (a.Low < 4 - (c.Code.length : Int)) with
    | true => rw [q4] at h3; simp at h3
    | false =>
     simp only [Bool.or_eq_false_iff, decide_eq_false_iff_not] at q4;omega
/-! Digits. -/
theorem trim_all (l c : List UInt8) (h : Lib.trimS l c = []) : ∀ x ∈ l, c.contains x = true := by
 have dw : ∀ l : List UInt8, l.dropWhile (c.contains ·) = [] → ∀ x ∈ l, c.contains x = true := by
  intro l;induction l with
  | nil => intro _ x hx; simp at hx
  | cons a l ih =>
   intro h x hx;by_cases ha : c.contains a = true
   ·rw [List.dropWhile_cons_of_pos ha] at h
    rcases List.mem_cons.1 hx with rfl | hx
    ·exact ha
    ·exact ih h x hx
   ·rw [List.dropWhile_cons_of_neg ha] at h; cases h
 have hd : ∀ (l : List UInt8) (a : UInt8) (t : List UInt8), l.dropWhile (c.contains ·) = a :: t → c.contains a = false := by
  intro l;induction l with
  | nil => intro a t h; cases h
  | cons b l ih =>
   intro a t h;by_cases hb : c.contains b = true
   ·rw [List.dropWhile_cons_of_pos hb] at h; exact ih a t h
   ·rw [List.dropWhile_cons_of_neg hb] at h
    injection h with h1 h2;subst h1;simpa using hb
 unfold Lib.trimS Lib.trimLeftS Lib.trimRightS at h;have h1 := dw _ h;match hD : l.reverse.dropWhile (c.contains ·) with
 | [] => intro x hx; exact dw _ hD x (List.mem_reverse.2 hx)
 | a :: t =>
  have h2 := h1 a (by rw [hD]; simp);rw [hd _ _ _ hD] at h2;cases h2
theorem dw_nil (c : List UInt8) : ∀ l : List UInt8, (∀ x ∈ l, c.contains x = true) → l.dropWhile (c.contains ·) = []
 | [], _ => rfl
 | a :: l, h => by rw [List.dropWhile_cons_of_pos (h a (by simp))]; exact dw_nil c l fun x hx => h x (List.mem_cons_of_mem _ hx)
theorem trim_nil (l c : List UInt8) (h : ∀ x ∈ l, c.contains x = true) : Lib.trimS l c = [] := by
 have h1 : Lib.trimRightS l c = [] := by
  unfold Lib.trimRightS;rw [dw_nil c _ fun x hx => h x (List.mem_reverse.1 hx)]; rfl
 unfold Lib.trimS;rw [h1]; rfl
def Dg (x : List UInt8) : Prop := ∀ b ∈ x, digs.contains b = true
theorem Dg.app {x y : List UInt8} (h : Dg x) (k : Dg y) : Dg (x ++ y) := fun b hb => by
 rcases List.mem_append.1 hb with hb | hb
 ·exact h b hb
 ·exact k b hb
theorem Dg.left {x y : List UInt8} (h : Dg (x ++ y)) : Dg x := fun b hb => h b (List.mem_append_left _ hb)
theorem Dg.right {x y : List UInt8} (h : Dg (x ++ y)) : Dg y := fun b hb => h b (List.mem_append_right _ hb)
theorem dg_of {x : List UInt8} {lo hi : Int} (h : digB x lo hi = true) : Dg x := by
 simp only [digB, Bool.and_eq_true, beq_iff_eq] at h;exact trim_all _ _ h.2
theorem dg_to {x : List UInt8} {lo hi : Int} (h : Dg x) (h1 : lo ≤ x.length) (h2 : (x.length : Int) ≤ hi) : digB x lo hi = true := by
 simp only [digB, Bool.and_eq_true, beq_iff_eq, decide_eq_true_eq];exact ⟨⟨h1, h2⟩, trim_nil _ _ h⟩

/-! Right plans. -/
theorem bif0 {b : Bool} {e r : Int} (he : e ≠ 0) (h : (bif b then e else r) = 0) : b = false ∧ r = 0 := by cases b <;> simp_all
theorem plan_c {p : List uT0} (h : planE p = 0) {i : Nat} {c : uT0} (hi : p[i]? = some c) : countryE p i c = 0 := by
 have h0 : errL (countryE p) 0 p = 0 := by
  unfold planE at h;split at h
  ·simp at h
  ·exact h
 have := errL_zero h0 i c hi
 simpa using this
structure CF (c : uT0) : Prop where
  code : digB c.Code 1 3 = true
  zero : (((c.Code[0]?.getD 0).toNat : Int) == 48) = false
  abroad : digB c.Abroad 1 4 = true
  trunk : digB c.Trunk 0 2 = true
  apart : hpB c.Trunk c.Abroad = false
  areas : ∀ (k : Nat) (a : uT2), c.Areas[k]? = some a → areaE c k a = 0
theorem country_all {p : List uT0} (h : planE p = 0) {c : uT0} (hc : c ∈ p) : CF c := by
 obtain ⟨i, hi⟩ := List.mem_iff_getElem?.1 hc;have h1 := plan_c h hi;unfold countryE at h1;simp only [] at h1;obtain ⟨q1, h1⟩ := bif0 (by decide) h1;obtain ⟨q2, h1⟩ := bif0 (by decide) h1;obtain ⟨q3, h1⟩ := bif0 (by decide) h1;obtain ⟨q4, h1⟩ := bif0 (by decide) h1;obtain ⟨q5, h1⟩ := bif0 (by decide) h1;rw [Bool.or_eq_false_iff] at q1 q4;rw [Bool.or_eq_false_iff] at q4;exact ⟨by simpa using q1.1, q1.2, by simpa using q4.1.1, by simpa using q4.1.2, q4.2, fun k a ha => by simpa using errL_zero h1 k a ha⟩
structure AF (c : uT0) (k : Nat) (a : uT2) : Prop where
  digits : digB a.Prefix 1 8 = true
  prev : 0 < k → Op.bytesLess a.Prefix (c.Areas[k - 1]?.getD a).Prefix = false ∧ (a.Prefix == (c.Areas[k - 1]?.getD a).Prefix) = false ∧ hpB a.Prefix (c.Areas[k - 1]?.getD a).Prefix = false
  up : hpB (c.Trunk ++ a.Prefix) c.Abroad = false
  down : hpB c.Abroad (c.Trunk ++ a.Prefix) = false
  low : (a.Prefix.length : Int) < a.Low ∧ a.Low ≤ a.High ∧ a.High ≤ 15 - (c.Code.length : Int) ∧ 4 - (c.Code.length : Int) ≤ a.Low
theorem area_all {c : uT0} {k : Nat} {a : uT2} (h : areaE c k a = 0) : AF c k a := by
 unfold areaE at h;simp only [] at h;obtain ⟨q1, h⟩ := bif0 (by decide) h;obtain ⟨q2, h⟩ := bif0 (by decide) h;obtain ⟨q3, h⟩ := bif0 (by decide) h;obtain ⟨q4, h⟩ := bif0 (by decide) h;rw [Bool.or_eq_false_iff, Bool.or_eq_false_iff] at q3;simp only [Bool.or_eq_false_iff, decide_eq_false_iff_not] at q4;refine ⟨by simpa using q1, fun h0 => ?_, q3.2.1, q3.2.2, by omega⟩;have q3 := q3.1;rw [decide_eq_true h0, Bool.true_and] at q2 q3;rw [Bool.or_eq_false_iff] at q2;exact ⟨q2.1, q2.2, q3⟩
theorem bl_mid : ∀ {x y z : List UInt8}, hpB z x = true → Op.bytesLess x y = true → Op.bytesLess y z = true → hpB y x = true
 | [], _, _, _, _, _ => by simp [hpB]
 | a :: x, y, [], h, _, _ => by simp [hpB] at h
 | a :: x, [], _ :: _, _, h, _ => by simp [Op.bytesLess] at h
 | a :: x, b :: y, e :: z, h, h1, h2 => by
  have hz : a = e ∧ hpB z x = true := by
   simp only [hpB, Bool.and_eq_true, decide_eq_true_eq, beq_iff_eq, List.length_cons, List.take_succ_cons, List.cons.injEq] at h ⊢
   exact ⟨h.2.1.symm, by omega, h.2.2⟩
  obtain ⟨rfl, hz⟩ := hz
  simp only [Op.bytesLess, Bool.or_eq_true, decide_eq_true_eq, Bool.and_eq_true, beq_iff_eq] at h1 h2
  rcases h1 with h1 | ⟨rfl, h1⟩
  ·rcases h2 with h2 | ⟨rfl, _⟩
   ·exact absurd (UInt8.lt_trans h1 h2) (UInt8.lt_irrefl _)
   ·exact absurd h1 (UInt8.lt_irrefl _)
  ·rcases h2 with h2 | ⟨_, h2⟩
   ·exact absurd h2 (UInt8.lt_irrefl _)
   ·rw [hp_cons]; exact bl_mid hz h1 h2
theorem apartA {c : uT0} (h : CF c) : c.Areas.Pairwise fun a b => hpB a.Prefix b.Prefix = false ∧ hpB b.Prefix a.Prefix = false := by
 have hf : ∀ (k : Nat) (hk : k < c.Areas.length), AF c k c.Areas[k] := fun k hk => area_all (h.areas k _ (by simp [hk]));have prev : ∀ (k : Nat) (hk : k + 1 < c.Areas.length), Op.bytesLess (c.Areas[k]'(by omega)).Prefix c.Areas[k + 1].Prefix = true ∧ hpB c.Areas[k + 1].Prefix (c.Areas[k]'(by omega)).Prefix = false := fun k hk => by
  have := (hf (k + 1) hk).prev (by omega)
  simp only [Nat.add_sub_cancel, show k < c.Areas.length from by omega, getElem?_pos, Option.getD_some] at this;exact ⟨bl_tot this.1 this.2.1, this.2.2⟩
 have chain : ∀ (d i : Nat) (hj : i + d + 1 < c.Areas.length), Op.bytesLess (c.Areas[i]'(by omega)).Prefix c.Areas[i + d + 1].Prefix = true := by
  intro d;induction d with
  | zero => intro i hj; exact (prev i hj).1
  | succ d ih =>
   intro i hj;exact bl_trans (ih i (by omega)) (prev (i + d + 1) hj).1
 rw [List.pairwise_iff_getElem];intro i j hi hj hij;have less : ∀ (i j : Nat) (hi : i < c.Areas.length) (hj : j < c.Areas.length), i < j → Op.bytesLess c.Areas[i].Prefix c.Areas[j].Prefix = true := fun i j hi hj hij => by
  have hl := chain (j - i - 1) i (by omega);have e : i + (j - i - 1) + 1 = j := by omega
  simpa only [e] using hl
 refine ⟨?_, ?_⟩
 ·cases hq : hpB c.Areas[i].Prefix c.Areas[j].Prefix
  ·rfl
  ·have := less i j hi hj hij; rw [bl_pre hq] at this; simp at this
 ·cases hq : hpB c.Areas[j].Prefix c.Areas[i].Prefix
  ·rfl
  ·by_cases e : j = i + 1
   ·subst e; rw [(prev i hj).2] at hq; simp at hq
   ·have := bl_mid hq (prev i (by omega)).1 (less (i + 1) j (by omega) hj (by omega))
    rw [(prev i (by omega)).2] at this; simp at this
theorem find_only {α : Type} {q : α → Bool} : ∀ {l : List α} {a : α}, l.Pairwise (fun a b => ¬ (q a = true ∧ q b = true)) → a ∈ l → q a = true → l.find? q = some a
 | b :: l, a, h, ha, hq => by
  obtain ⟨h1, h2⟩ := List.pairwise_cons.1 h
  rcases List.mem_cons.1 ha with rfl | ha
  ·simp [hq]
  ·have : q b = false := by
    cases hb : q b
    ·rfl
    ·exact absurd ⟨hb, hq⟩ (h1 a ha)
   simp only [List.find?_cons, this]
   exact find_only h2 ha hq
theorem Apart.one {p : List uT0} (h : Apart p) (m : List UInt8) : p.Pairwise (fun a b => ¬ (hpB m a.Code = true ∧ hpB m b.Code = true)) :=
 h.imp fun {a b} hab hk => by
  rcases take_both hk.1 hk.2 with q | q
  ·rw [hab.1] at q; simp at q
  ·rw [hab.2] at q; simp at q
theorem CF.one {c : uT0} (h : CF c) (m : List UInt8) : c.Areas.Pairwise (fun a b => ¬ (hpB m a.Prefix = true ∧ hpB m b.Prefix = true)) :=
 (apartA h).imp fun {a b} hab hk => by
  rcases take_both hk.1 hk.2 with q | q
  ·rw [hab.1] at q; simp at q
  ·rw [hab.2] at q; simp at q
theorem hp_app (x y : List UInt8) : hpB (x ++ y) x = true := by simp [hpB]
theorem hp_at {m x : List UInt8} (h : hpB m x = true) : m = x ++ m.drop x.length := by
 simp only [hpB, Bool.and_eq_true, decide_eq_true_eq, beq_iff_eq] at h;conv => lhs; rw [← List.take_append_drop x.length m, h.2]

theorem split_ok {p : List uT0} (h0 : planE p = 0) {c : uT0} (hc : c ∈ p) {a : uT2} (ha : a ∈ c.Areas) {d : List UInt8} (hd : Dg d) (h1 : a.Low ≤ (a.Prefix.length : Int) + d.length) (h2 : (a.Prefix.length : Int) + d.length ≤ a.High) :
  splitE p (43 :: (c.Code ++ (a.Prefix ++ d))) = (⟨c.Code, a.Prefix, d⟩, 0) := by
 have cf := country_all h0 hc;obtain ⟨k, hk⟩ := List.mem_iff_getElem?.1 ha;have af := area_all (cf.areas k a hk);obtain ⟨l1, l2, l3, l4⟩ := af.low;have dc := dig_len cf.code;have hform : formB (43 :: (c.Code ++ (a.Prefix ++ d))) = true := by
  simp only [formB, Bool.and_eq_true, List.drop_succ_cons, List.drop_zero];refine ⟨by simp [hpB], dg_to ((dg_of cf.code).app ((dg_of af.digits).app hd)) (by simp; omega) (by simp; omega), ?_⟩;have hz := cf.zero;cases hcc : c.Code with
  | nil => rw [hcc] at dc; simp at dc
  | cons x t => rw [hcc] at hz; simp only [List.cons_append, List.getElem?_cons_zero, Option.getD_some] at hz ⊢; simp only [bne, hz]; rfl
 have hf : p.find? (fun o => hpB (c.Code ++ (a.Prefix ++ d)) o.Code) = some c := find_only ((apart_of h0).one _) hc (hp_app _ _);have hdr : (43 :: (c.Code ++ (a.Prefix ++ d))).drop (1 + c.Code.length) = a.Prefix ++ d := by
  rw [Nat.add_comm, List.drop_succ_cons, List.drop_left]
 have hg : c.Areas.find? (fun o => hpB (a.Prefix ++ d) o.Prefix) = some a := find_only (cf.one _) ha (hp_app _ _);unfold splitE;simp only [hform, Bool.not_true, cond_false, List.drop_succ_cons, List.drop_zero, hf];rw [hdr];simp only [hg, areaR, List.length_append, List.drop_left];have q1 : decide (((a.Prefix.length + d.length : Nat) : Int) < a.Low) = false := by simp; omega
 have q2 : decide (((a.Prefix.length + d.length : Nat) : Int) > a.High) = false := by simp; omega
 rw [q1, q2]; rfl
theorem split_inv {p : List uT0} (h0 : planE p = 0) {n : List UInt8} (h : (splitE p n).2 = 0) :
  ∃ c, c ∈ p ∧ ∃ a, a ∈ c.Areas ∧ n = 43 :: (c.Code ++ (a.Prefix ++ (splitE p n).1.Rest)) ∧ (splitE p n).1.Country = c.Code ∧ (splitE p n).1.Area = a.Prefix ∧ Dg (n.drop 1) ∧ (n.drop 1).length ≤ 15 := by
 unfold splitE at h ⊢;cases hf : formB n with
 | false => rw [hf] at h; simp at h
 | true =>
  obtain ⟨m, rfl, m1, m2⟩ := form_at hf;have hdg : Dg m := by
   simp only [formB, Bool.and_eq_true, List.drop_succ_cons, List.drop_zero] at hf;exact dg_of hf.2.1
  rw [hf] at h;simp only [Bool.not_true, cond_false, List.drop_succ_cons, List.drop_zero] at h ⊢;cases hc : p.find? (fun c => hpB m c.Code) with
  | none => rw [hc] at h; simp at h
  | some c =>
   rw [hc] at h;simp only [] at h ⊢;have hm := hp_at (m := m) (x := c.Code) (List.find?_some (p := fun c : uT0 => hpB m c.Code) hc);have hdr : (43 :: m).drop (1 + c.Code.length) = m.drop c.Code.length := by rw [Nat.add_comm, List.drop_succ_cons]
   rw [hdr] at h ⊢;cases ha : c.Areas.find? (fun a => hpB (m.drop c.Code.length) a.Prefix) with
   | none => rw [ha] at h; simp at h
   | some a =>
    rw [ha] at h;simp only [] at h ⊢;have hn := hp_at (m := m.drop c.Code.length) (x := a.Prefix) (List.find?_some (p := fun a : uT2 => hpB (m.drop c.Code.length) a.Prefix) ha);unfold areaR at h ⊢;cases hb : decide (((m.drop c.Code.length).length : Int) < a.Low) || decide (((m.drop c.Code.length).length : Int) > a.High) with
    | true => rw [hb] at h; simp at h
    | false =>
     simp only [cond_false];exact ⟨c, List.mem_of_find?_eq_some hc, a, List.mem_of_find?_eq_some ha, by rw [← hn, ← hm], rfl, rfl, hdg, m2⟩
/-! slices.DeleteFunc. -/
theorem index_is (l : List (List UInt8)) (g : List UInt8 → Option Bool) (q : List UInt8 → Bool) (hg : ∀ a ∈ l, g a = some (q a)) (hl : l.length ≤ 1000) : uF172 l g = some (idxI q l) :=
 idxF_loop l g q hg (by omega)
theorem filter_take_succ {α : Type} (q : α → Bool) (l : List α) (k : Nat) (h : k < l.length) : (l.take (k + 1)).filter q = (l.take k).filter q ++ (if q l[k] = true then [l[k]] else []) := by
 rw [List.take_succ_eq_append_getElem h, List.filter_append];by_cases hq : q l[k] = true <;> simp [hq]
theorem delete_loop (l : List (List UInt8)) (g : List UInt8 → Option Bool) (q : List UInt8 → Bool) (hg : ∀ a ∈ l, g a = some (q a)) (hl : l.length ≤ 1000) {i : Nat} (hi : i < l.length) (hq : q l[i] = true) (hb : ∀ j (hj : j < i), q (l[j]'(by omega)) = false) :
  ∃ e, loopO (fun s : List (List UInt8) × Int × Int => uF112 g s.1 s.2.1 s.2.2) (l, (i : Int), ((i + 1 : Nat) : Int)) = some e ∧ e.1.length = l.length ∧ e.2 = ((l.filter (fun a => !q a)).length : Int) ∧ e.1.take (l.filter (fun a => !q a)).length = l.filter (fun a => !q a) := by
 have h0 : (l.take (i + 1)).filter (fun a => !q a) = l.take i := by
  rw [filter_take_succ _ _ _ hi];simp only [hq, Bool.not_true, Bool.false_eq_true, if_false, List.append_nil];rw [List.filter_eq_self];intro a ha;obtain ⟨j, hj, rfl⟩ := List.mem_take_iff_getElem.1 ha;simpa using hb j (by omega)
 obtain ⟨e, e1, e2⟩ := loopO_ind (step := fun s : List (List UInt8) × Int × Int => uF112 g s.1 s.2.1 s.2.2)
  (fun s => ∃ k : Nat, s.2.2 = (k : Int) ∧ k ≤ l.length ∧ s.1.length = l.length ∧ s.1.drop k = l.drop k ∧ s.2.1 = (((l.take k).filter (fun a => !q a)).length : Int) ∧ ((l.take k).filter (fun a => !q a)).length < k ∧ s.1.take ((l.take k).filter (fun a => !q a)).length = (l.take k).filter (fun a => !q a))
  (fun e => e.1.length = l.length ∧ e.2 = ((l.filter (fun a => !q a)).length : Int) ∧ e.1.take (l.filter (fun a => !q a)).length = l.filter (fun a => !q a))
  (fun s => l.length - s.2.2.toNat) (fun s hs => by
   obtain ⟨w, n, j⟩ := s;obtain ⟨k, rfl, k1, k2, k3, rfl, k5, k6⟩ := hs;simp only [] at k2 k3 k6 ⊢;by_cases hk : k < l.length
   ·have hd : decide ((k : Int) < (w.length : Int)) = true := by simp; omega
    have hwk : idx w (k : Int) = some l[k] := by
     rw [idx_at (by omega : k < w.length)];have : (w.drop k)[0]'(by simp; omega) = (l.drop k)[0]'(by simp; omega) := by simp only [k3]
     simpa using this
    simp only [uF112, hd, cond_true, hwk, Option.bind_some, hg _ (List.getElem_mem hk), bnd];rw [w64 (n := (k : Int) + 1) (by omega) (by omega)];have hf := filter_take_succ (fun a => !q a) l k hk;cases hqk : q l[k] with
    | true =>
     simp only [hqk, Bool.not_true, Bool.false_eq_true, if_false, List.append_nil] at hf;simp only [Bool.not_true, cond_false];refine .inr ⟨_, rfl, ⟨k + 1, by simp, by omega, k2, ?_, by rw [hf], by rw [hf]; omega, by rw [hf]; exact k6⟩, by simp only []; omega⟩;have : w.drop (k + 1) = (w.drop k).drop 1 := by rw [List.drop_drop]
     rw [this, k3, List.drop_drop]
    | false =>
     simp only [hqk, Bool.not_false, if_true] at hf;generalize hN : ((l.take k).filter (fun a => !q a)).length = N at *;have hNw : N < w.length := by omega
     rw [w64 (n := (N : Int) + 1) (by omega) (by omega)];simp only [Bool.not_false, cond_true, idx_at hNw, Option.bind_some, Int.toNat_natCast];have hl2 : ((l.take (k + 1)).filter (fun a => !q a)).length = N + 1 := by rw [hf]; simp [hN]
     refine .inr ⟨_, rfl, ⟨k + 1, by simp, by omega, by simp [k2], ?_, by rw [hl2]; simp, by rw [hl2]; omega, ?_⟩, by simp only []; omega⟩
     ·simp only []
      rw [List.drop_set_of_lt (by omega)];have : w.drop (k + 1) = (w.drop k).drop 1 := by rw [List.drop_drop]
      rw [this, k3, List.drop_drop]
     ·simp only []
      rw [hl2, List.take_succ_eq_append_getElem (by simpa using hNw), List.take_set_of_le (by omega), k6, hf];simp
   ·have hkl : k = l.length := by omega
    have hd : decide ((k : Int) < (w.length : Int)) = false := by simp; omega
    refine .inl ⟨_, by simp only [uF112, hd, cond_false]; rfl, k2, ?_, ?_⟩
    ·simp only []; rw [hkl, List.take_length]
    ·simp only []; rw [hkl, List.take_length] at k6; exact k6) (l, (i : Int), ((i + 1 : Nat) : Int)) ⟨i + 1, rfl, by omega, rfl, rfl, by rw [h0]; simp; omega, by rw [h0]; simp; omega, by rw [h0]; simp [Nat.min_eq_left (Nat.le_of_lt hi)]⟩
 exact ⟨e, e1, e2⟩
theorem delete_is (l : List (List UInt8)) (g : List UInt8 → Option Bool) (q : List UInt8 → Bool) (hg : ∀ a ∈ l, g a = some (q a)) (hl : l.length ≤ 1000) : uF112a l g = some (l.filter fun a => !q a) := by
 unfold uF112a;rw [index_is l g q hg hl];simp only [Option.bind_some];by_cases h : idxI q l < 0
 ·have hall := idxI_neg h
  have e : idxI q l = -1 := by have := (idxI_lt q l).1; omega
  have hf : l.filter (fun a => !q a) = l := by
   rw [List.filter_eq_self]; intro a ha; simpa using hall a ha
  simp [e, hf]
 ·obtain ⟨i, hi, e, hq, hb⟩ := idxI_get (p := q) (l := l) (by omega)
  have hne : ((i : Int) == -1) = false := by simp
  obtain ⟨⟨w, n⟩, e1, e2, e3, e4⟩ := delete_loop l g q hg hl hi hq hb;simp only [] at e2 e3 e4;have hle : (l.filter fun a => !q a).length ≤ l.length := List.length_filter_le _ _;have hn0 : 0 ≤ n := by omega
  have ec : clrF w n ([] : List UInt8) = some (w.take n.toNat ++ List.replicate (w.length - n.toNat) []) := by
   unfold clrF;rw [if_pos ⟨by omega, by omega⟩]
  simp only [e, hne, cond_false, bnd];rw [w64 (n := (i : Int) + 1) (by omega) (by omega)];have e1' : loopO (fun s : List (List UInt8) × Int × Int => uF112 g s.1 s.2.1 s.2.2) (l, (i : Int), (i : Int) + 1) = some (w, n) := e1;simp only [e1', Option.bind_some, ec];have hs : sub (w.take n.toNat ++ List.replicate (w.length - n.toNat) []) 0 n = some (l.filter fun a => !q a) := by
   rw [e3, Int.toNat_natCast, sub_take (by simp; omega), List.take_append_of_le_length (by simp; omega), List.take_take, Nat.min_self, e4]
  rw [hs]; rfl

/-! Sorted. -/
theorem ins1_is (c : List UInt8 → List UInt8 → Option Int) (hc : ∀ a b, ∃ n, c a b = some n) (m : Nat) (l : List (List UInt8)) (hl : l.length = m) (hm : m ≤ 1000) (j : Int) (hj : 0 ≤ j ∧ j < m) (P : List UInt8 → Prop) (hP : ∀ a ∈ l, P a) :
  ∃ r, loopO (fun s : List (List UInt8) × Int => uF204a 0 c s.1 s.2) (l, j) = some r ∧ r.length = m ∧ ∀ a ∈ r, P a := by
 refine loopO_ind (step := fun s : List (List UInt8) × Int => uF204a 0 c s.1 s.2) (fun q => 0 ≤ q.2 ∧ q.2 < m ∧ q.1.length = m ∧ ∀ a ∈ q.1, P a) (fun r => r.length = m ∧ ∀ a ∈ r, P a) (fun q => q.2.toNat) (fun q hq => ?_) (l, j) ⟨hj.1, hj.2, hl, hP⟩;obtain ⟨q, k⟩ := q;obtain ⟨k0, k1, k2, k3⟩ := hq;simp only [] at k0 k1 k2 k3;simp only [uF204a];by_cases h : k > 0
 ·obtain ⟨x, hx, mx⟩ := idx_of (l := q) k0 (by omega)
  obtain ⟨y, hy, my⟩ := idx_of (l := q) (n := k - 1) (by omega) (by omega);have w : IntKind.wrap .i64 (k - 1) = k - 1 := w64 (by omega) (by omega);obtain ⟨n, hn⟩ := hc x y;simp only [h, decide_true, cond_true, hx, hy, w, hn, Option.bind_some, bnd];cases hd : decide (n < 0) with
  | false => exact .inl ⟨q, by simp, k2, k3⟩
  | true =>
   obtain ⟨z, hz, _⟩ := idx_of (l := q.set k.toNat y) (n := k - 1) (by omega) (by simp; omega);simp only [cond_true, hz, Option.bind_some];refine .inr ⟨_, rfl, ⟨by (try simp only []); omega, by (try simp only []); omega, by simp [k2], fun a ha => ?_⟩, by (try simp only []); omega⟩;rcases List.mem_or_eq_of_mem_set ha with ha | rfl
   ·rcases List.mem_or_eq_of_mem_set ha with ha | rfl
    ·exact k3 a ha
    ·exact k3 _ my
   ·exact k3 _ mx
 ·have hd : decide (k > 0) = false := by simpa using h
  simp only [hd, cond_false, Option.bind_some];exact .inl ⟨q, rfl, k2, k3⟩
theorem ins_is (c : List UInt8 → List UInt8 → Option Int) (hc : ∀ a b, ∃ n, c a b = some n) (l : List (List UInt8)) (hl : l.length ≤ 1000) (P : List UInt8 → Prop) (hP : ∀ a ∈ l, P a) :
  ∃ r, uF204 l 0 (l.length : Int) c = some r ∧ r.length = l.length ∧ ∀ a ∈ r, P a := by
 obtain ⟨r, h1, h2⟩ := loopO_ind (step := fun s : List (List UInt8) × Int => uF204b 0 (l.length : Int) c s.1 s.2) (fun q => 0 ≤ q.2 ∧ q.1.length = l.length ∧ ∀ a ∈ q.1, P a) (fun r => r.length = l.length ∧ ∀ a ∈ r, P a) (fun q => (l.length - q.2).toNat) (fun q hq => by
  obtain ⟨q, k⟩ := q;obtain ⟨k0, k2, k3⟩ := hq;simp only [] at k0 k2 k3;simp only [uF204b];by_cases h : k < (l.length : Int)
  ·obtain ⟨r, h1, h2, h3⟩ := ins1_is c hc l.length q k2 hl k ⟨k0, h⟩ P k3
   simp only [h, decide_true, cond_true, h1, Option.bind_some, bnd];rw [w64 (by omega) (by omega)];exact .inr ⟨_, rfl, ⟨by (try simp only []); omega, h2, h3⟩, by (try simp only []); omega⟩
  ·exact .inl ⟨q, by simp [h], k2, k3⟩) (l, 1) ⟨by simp, rfl, hP⟩
 refine ⟨r, ?_, h2⟩;simp only [uF204, bnd];rw [show IntKind.wrap .i64 (0 + 1) = 1 from rfl, h1]; rfl
theorem sort_is (c : List UInt8 → List UInt8 → Option Int) (hc : ∀ a b, ∃ n, c a b = some n) (l : List (List UInt8)) (hl : l.length ≤ 12) (P : List UInt8 → Prop) (hP : ∀ a ∈ l, P a) :
  ∃ r, uF109 l c = some r ∧ r.length = l.length ∧ ∀ a ∈ r, P a := by
 obtain ⟨r, h1, h2⟩ := ins_is c hc l (by omega) P hP;refine ⟨r, ?_, h2⟩;have d1 : decide ((20 : Int) ≤ (l.length : Int)) = false := by simp; omega
 have d2 : decide ((20 : Int) < (l.length : Int)) = false := by simp; omega
 have e1 : loopO (fun s : List (List UInt8) × Int × Int => uF170 (l.length : Int) c s.1 s.2.1 s.2.2) (l, 0, 20) = some (l, 0) := by
  rw [loopO_eq]; simp only [uF170, d1, cond_false]
 have e2 : loopO (fun s : Int => uF170a (l.length : Int) s) 20 = some () := by
  rw [loopO_eq]; simp only [uF170a, d2, cond_false]
 simp only [uF109, uF170b, e1, Option.bind_some, h1, e2]
theorem cmp_total (a b : List UInt8) : ∃ n, (fun a0 a1 => uF114 a0 a1) a b = some n := by
 simp only [uF114, uF111, uF171, bnd, bne_self_eq_false, Option.bind_some, cond_false];cases decide ((a.length : Int) < (b.length : Int))
 ·cases decide ((a.length : Int) > (b.length : Int)) <;> exact ⟨_, rfl⟩
 ·exact ⟨_, rfl⟩
def triesE (c : uT0) (h : uT3) (m : List UInt8) (x : uT4) : List (List UInt8) :=
  if (x.Country == c.Code) = true then (if (h.Area == x.Area && !(c.Trunk == [])) = true then [c.Abroad ++ m, c.Trunk ++ (x.Area ++ x.Rest), x.Rest] else [c.Abroad ++ m, c.Trunk ++ (x.Area ++ x.Rest)]) else [c.Abroad ++ m]
theorem tries_nodup {c : uT0} (cf : CF c) (h : uT3) {x : uT4} (h1 : 1 ≤ x.Country.length) (h2 : 1 ≤ x.Area.length) : (triesE c h (x.Country ++ (x.Area ++ x.Rest)) x).Nodup := by
 have ab := (dig_len cf.abroad).1;have e1 : (x.Country == c.Code) = true → c.Abroad ++ (x.Country ++ (x.Area ++ x.Rest)) ≠ c.Trunk ++ (x.Area ++ x.Rest) := fun _ he => by
  have hl := congrArg List.length he;simp at hl;have ht : hpB c.Trunk c.Abroad = true := by
   have := congrArg (List.take c.Abroad.length) he
   rw [List.take_left, List.take_append_of_le_length (by omega)] at this;simp only [hpB, Bool.and_eq_true, decide_eq_true_eq, beq_iff_eq];exact ⟨by omega, this.symm⟩
  rw [cf.apart] at ht; simp at ht
 have e2 : c.Abroad ++ (x.Country ++ (x.Area ++ x.Rest)) ≠ x.Rest := fun he => by
  have hl := congrArg List.length he;simp at hl; omega
 have e3 : c.Trunk ++ (x.Area ++ x.Rest) ≠ x.Rest := fun he => by
  have hl := congrArg List.length he;simp at hl; omega
 unfold triesE;split
 ·rename_i hx
  split
  ·simp only [List.nodup_cons, List.mem_cons, List.not_mem_nil, or_false, not_or, not_false_eq_true, List.nodup_nil, and_true]
   exact ⟨⟨e1 hx, e2⟩, e3⟩
  ·simp only [List.nodup_cons, List.mem_cons, List.not_mem_nil, or_false, not_false_eq_true, List.nodup_nil, and_true]
   exact e1 hx
 ·simp
theorem tries_len (c : uT0) (h : uT3) (m : List UInt8) (x : uT4) : (triesE c h m x).length ≤ 3 := by
 unfold triesE; split
 ·split <;> simp
 ·simp
theorem tries_first (c : uT0) (h : uT3) (m : List UInt8) (x : uT4) : c.Abroad ++ m ∈ triesE c h m x := by
 unfold triesE; split
 ·split <;> simp
 ·simp
theorem tries_short {c : uT0} {h : uT3} {m : List UInt8} {x : uT4} {B : Nat} (h1 : c.Abroad.length + m.length ≤ B) (h2 : c.Trunk.length + (x.Area.length + x.Rest.length) ≤ B) : ∀ s ∈ triesE c h m x, s.length ≤ B := by
 intro s hs;unfold triesE at hs;split at hs
 ·split at hs
  ·simp only [List.mem_cons, List.not_mem_nil, or_false] at hs
   rcases hs with rfl | rfl | rfl <;> (try simp) <;> omega
  ·simp only [List.mem_cons, List.not_mem_nil, or_false] at hs
   rcases hs with rfl | rfl <;> simp <;> omega
 ·simp only [List.mem_cons, List.not_mem_nil, or_false] at hs
  subst hs; simp; omega

def hits (p : List uT0) (c : uT0) (h : uT3) (n : List UInt8) (s : List UInt8) : Bool := ((reachE p c h s).2 == 0) && ((reachE p c h s).1 == n)
theorem ways_is {p : List uT0} (hp : SmallP p) (h0 : planE p = 0) {h : uT3} {c : uT0} {a : uT2} (hr : homeR p h = (c, a, 0)) (hf : p.find? (fun c => c.Code == h.Country) = some c) (hh : h.Area.length ≤ 10) {n : List UInt8} (hn : n.length ≤ 100) (hs : (splitE p n).2 = 0) :
  ∃ r, uF49 p h n = some r ∧ 0 < r.length ∧ r.length ≤ 3 ∧ ∀ x ∈ r, x.length ≤ 30 := by
 have hg := hp.good;have hap := apart_of h0;have hcp := List.mem_of_find?_eq_some hf;have cf := country_all h0 hcp;obtain ⟨sc1, sc2, sc3, sc4, sc5⟩ := hp.2 c hcp;obtain ⟨c', hc', a', ha', en, ec, ea, dg, l15⟩ := split_inv h0 hs;have cf' := country_all h0 hc';obtain ⟨k, hk⟩ := List.mem_iff_getElem?.1 ha';have af' := area_all (cf'.areas k a' hk);obtain ⟨x, hx⟩ : ∃ x, (splitE p n).1 = x := ⟨_, rfl⟩;rw [hx] at en ec ea;rw [← ec, ← ea] at en;obtain ⟨m, hm⟩ : ∃ m, x.Country ++ (x.Area ++ x.Rest) = m := ⟨_, rfl⟩;rw [hm] at en;have lc := dig_len cf'.code;have la := dig_len af'.digits;have lab := dig_len cf.abroad;have ltr := dig_len cf.trunk;rw [← ec] at lc;rw [← ea] at la;subst en;simp only [List.drop_succ_cons, List.drop_zero] at dg l15;have ml : m.length = x.Country.length + (x.Area.length + x.Rest.length) := by rw [← hm]; simp
 -- the list that is tried
 have hnd := tries_nodup cf h (x := x) (by omega) (by omega);rw [hm] at hnd;have hshort := tries_short (c := c) (h := h) (m := m) (x := x) (B := 19) (by omega) (by omega);have hlen := tries_len c h m x;have hcc : c.Code.length ≤ 100 := by omega
 have hrch : ∀ s ∈ triesE c h m x, uF93 p c h s = some (reachE p c h s) ∧ uF48 p h s = some (reachE p c h s) := fun s hs =>
  ⟨reach_is hg hcc h (by omega) s (by have := hshort s hs; omega), reach_ref hg hap h hf hcc (by omega) s (by have := hshort s hs; omega)⟩
 -- the first reaches it
 have hfirst : hits p c h (43 :: m) (c.Abroad ++ m) = true := by
  have hd : digB (c.Abroad ++ m) 1 30 = true := dg_to ((dg_of cf.abroad).app dg) (by simp; omega) (by simp; omega);have : reachE p c h (c.Abroad ++ m) = (43 :: m, 0) := by
   unfold reachE;rw [hd, hp_app, List.drop_left];simp only [Bool.not_true, cond_false, cond_true, goE, hs, if_true]
  simp [hits, this]
 have hpos : 0 < ((triesE c h m x).filter (hits p c h (43 :: m))).length := by
  rw [List.length_pos_iff_exists_mem];exact ⟨_, List.mem_filter.2 ⟨tries_first c h m x, hfirst⟩⟩
 have hfl : ((triesE c h m x).filter (hits p c h (43 :: m))).length ≤ 3 := Nat.le_trans (List.length_filter_le _ _) hlen;obtain ⟨r, s1, s2, s3⟩ := sort_is (fun a0 a1 => uF114 a0 a1) cmp_total _ (show ((triesE c h m x).filter (hits p c h (43 :: m))).length ≤ 12 by omega) (fun s => s.length ≤ 30) (fun s hs => by have := hshort s (List.mem_filter.1 hs).1; omega);refine ⟨r, ?_, by omega, by omega, s3⟩
 ·-- the document's way
  have hidx : idx p (idxI (fun c => c.Code == h.Country) p) = some c := by
   rcases idx_find (fun c : uT0 => c.Code == h.Country) p with ⟨i1, i2⟩ | ⟨i1, c', i2, i3, i4, i5⟩
   ·rw [i2] at hf; simp at hf
   ·rw [i3] at hf; rw [i2]; exact hf
  have q1 : sub (43 :: m) 1 ((43 :: m).length : Int) = some m := by
   have := sub_drop (l := 43 :: m) (k := 1) (by simp)
   simpa using this
  have q2 : sadd c.Abroad m = some (c.Abroad ++ m) := sadd_of (by omega);have q5 : sadd [43] c.Code = some (43 :: c.Code) := sadd_of (by simp; omega);have htry : ((uF102 (43 :: m) (43 :: c.Code)).bind fun y56 => (bif y56.2 then ((sadd c.Trunk y56.1).bind fun y72 => (app 16 [c.Abroad ++ m] [y72]).bind fun y80 => (uF102 y56.1 h.Area).bind fun y88 => bif ((y88.2 && (!(h.Area == []))) && (!(c.Trunk == []))) then ((app 16 y80 [y88.1]).bind fun y139 => some y139) else (some y80)) else (some [c.Abroad ++ m]))) = some (triesE c h m x) := by
   rw [cut_is, hp_cons];unfold triesE;by_cases hcc' : c' = c
   ·subst hcc'
    have hc1 : hpB m c'.Code = true := by rw [← hm, ec]; exact hp_app _ _
    have hc2 : (x.Country == c'.Code) = true := by rw [ec]; simp
    have hdr : (43 :: m).drop (43 :: c'.Code).length = x.Area ++ x.Rest := by
     rw [← hm, ec, List.length_cons, List.drop_succ_cons, List.drop_left]
    rw [hc1, hc2, if_pos rfl, hdr];have a1 : app 16 [c'.Abroad ++ m] [c'.Trunk ++ (x.Area ++ x.Rest)] = some [c'.Abroad ++ m, c'.Trunk ++ (x.Area ++ x.Rest)] := app_of (by simp) (by simp);have q6 : sadd c'.Trunk (x.Area ++ x.Rest) = some (c'.Trunk ++ (x.Area ++ x.Rest)) := sadd_of (by simp; omega);simp only [Option.bind_some, cond_true, q6, a1, cut_is, if_true];by_cases hA : h.Area = x.Area
    ·have hne : (x.Area == []) = false := by
      cases hxa : x.Area with
      | nil => rw [hxa] at la; simp at la
      | cons => rfl
     have a2 : app 16 [c'.Abroad ++ m, c'.Trunk ++ (x.Area ++ x.Rest)] [x.Rest] = some [c'.Abroad ++ m, c'.Trunk ++ (x.Area ++ x.Rest), x.Rest] := app_of (by simp) (by simp);rw [hA, hp_app, if_pos rfl, hne, List.drop_left];cases c'.Trunk == []
     ·simp only [Bool.not_false, Bool.and_self, cond_true, a2, Option.bind_some, beq_self_eq_true, if_true]
     ·simp
    ·have hb : (h.Area == x.Area) = false := by simpa using hA
     have hz : (hpB (x.Area ++ x.Rest) h.Area && !(h.Area == [])) = false := by
      cases hq : hpB (x.Area ++ x.Rest) h.Area with
      | false => rfl
      | true =>
       cases hq2 : h.Area == [] with
       | true => rfl
       | false =>
        exfalso;have hne : ¬ (h.Area == []) = true := by rw [hq2]; simp
        simp only [homeR, hf, if_neg hne] at hr;cases hg2 : c'.Areas.find? (fun a => a.Prefix == h.Area) with
        | none => rw [hg2] at hr; simp at hr
        | some a0 =>
         have b1 := List.mem_of_find?_eq_some hg2;have b2 : a0.Prefix = h.Area := by simpa using List.find?_some (p := fun a : uT2 => a.Prefix == h.Area) hg2
         have f1 := find_only (q := fun a : uT2 => hpB (x.Area ++ x.Rest) a.Prefix) (cf.one _) b1 (by simp only [b2, hq]);have f2 := find_only (q := fun a : uT2 => hpB (x.Area ++ x.Rest) a.Prefix) (cf.one _) ha' (by simp only [← ea]; exact hp_app _ _);rw [f1] at f2
         have := Option.some.inj f2
         subst this;exact hA (b2.symm.trans ea.symm)
     have hz2 : (((if hpB (x.Area ++ x.Rest) h.Area = true then ((x.Area ++ x.Rest).drop h.Area.length, true) else (x.Area ++ x.Rest, false)) : List UInt8 × Bool).2 && !(h.Area == [])) = false := by
      rw [← hz]; cases hpB (x.Area ++ x.Rest) h.Area <;> rfl
     rw [hz2, hb];rfl
   ·have hc1 : hpB m c.Code = false := by
     cases hq : hpB m c.Code with
     | false => rfl
     | true =>
      have f1 := find_only (q := fun o : uT0 => hpB m o.Code) (hap.one m) hcp hq;have f2 := find_only (q := fun o : uT0 => hpB m o.Code) (hap.one m) hc' (by rw [← hm, ec]; exact hp_app _ _);rw [f1] at f2;exact absurd (Option.some.inj f2).symm hcc'
    have hc2 : (x.Country == c.Code) = false := by
     cases hq : x.Country == c.Code with
     | false => rfl
     | true =>
      have : x.Country = c.Code := by simpa using hq
      rw [← hm, this, hp_app] at hc1; simp at hc1
    rw [hc1, hc2]; rfl
  have hdel := delete_is (triesE c h m x) (fun a0 => uF113 a0 p h (43 :: m)) (fun s => ((reachE p c h s).2 != 0) || !((reachE p c h s).1 == (43 :: m))) (fun s hs => by
   simp only [uF113, (hrch s hs).2, Option.bind_some, bnd]) (by omega)
  have hfe : ((triesE c h m x).filter fun s => !(((reachE p c h s).2 != 0) || !((reachE p c h s).1 == (43 :: m)))) = (triesE c h m x).filter (hits p c h (43 :: m)) := by
   congr 1;funext s;simp only [hits, bne, Bool.not_or, Bool.not_not]
  unfold uF49;simp only [at_is hg, Option.bind_some, hidx, q1, q2, q5];have htry2 : ∀ {β : Type} (k : List (List UInt8) → Option β), ((uF102 (43 :: m) (43 :: c.Code)).bind fun y56 => (bif y56.2 then ((sadd c.Trunk y56.1).bind fun y72 => (app 16 [c.Abroad ++ m] [y72]).bind fun y80 => (uF102 y56.1 h.Area).bind fun y88 => bif ((y88.2 && (!(h.Area == []))) && (!(c.Trunk == []))) then ((app 16 y80 [y88.1]).bind fun y139 => some y139) else (some y80)) else (some [c.Abroad ++ m])).bind k) = k (triesE c h m x) := fun k => by
   have := congrArg (·.bind k) htry
   simp only [Option.bind_some] at this;rw [← this];cases uF102 (43 :: m) (43 :: c.Code) <;> rfl
  rw [htry2, hdel, hfe];simp only [Option.bind_some];rw [s1]; rfl
theorem split_bnd {p : List uT0} (h0 : planE p = 0) {n : List UInt8} (h : (splitE p n).2 = 0) :
  ∃ c, c ∈ p ∧ ∃ a, a ∈ c.Areas ∧ ∃ r, n = 43 :: (c.Code ++ (a.Prefix ++ r)) ∧ a.Low ≤ (a.Prefix.length : Int) + r.length ∧ (a.Prefix.length : Int) + r.length ≤ a.High := by
 unfold splitE at h;cases hf : formB n with
 | false => rw [hf] at h; simp at h
 | true =>
  obtain ⟨m, rfl, m1, m2⟩ := form_at hf;rw [hf] at h;simp only [Bool.not_true, cond_false, List.drop_succ_cons, List.drop_zero] at h;cases hc : p.find? (fun c => hpB m c.Code) with
  | none => rw [hc] at h; simp at h
  | some c =>
   rw [hc] at h;simp only [] at h;have hm := hp_at (m := m) (x := c.Code) (List.find?_some (p := fun c : uT0 => hpB m c.Code) hc);have hdr : (43 :: m).drop (1 + c.Code.length) = m.drop c.Code.length := by rw [Nat.add_comm, List.drop_succ_cons]
   rw [hdr] at h;cases ha : c.Areas.find? (fun a => hpB (m.drop c.Code.length) a.Prefix) with
   | none => rw [ha] at h; simp at h
   | some a =>
    rw [ha] at h;simp only [] at h;have hn := hp_at (m := m.drop c.Code.length) (x := a.Prefix) (List.find?_some (p := fun a : uT2 => hpB (m.drop c.Code.length) a.Prefix) ha);obtain ⟨r, hr⟩ : ∃ r, (m.drop c.Code.length).drop a.Prefix.length = r := ⟨_, rfl⟩;rw [hr] at hn;rw [hn] at h hm;unfold areaR at h;cases hb : decide (((a.Prefix ++ r).length : Int) < a.Low) || decide (((a.Prefix ++ r).length : Int) > a.High) with
    | true => rw [hb] at h; simp at h
    | false =>
     simp only [Bool.or_eq_false_iff, decide_eq_false_iff_not, List.length_append] at hb;exact ⟨c, List.mem_of_find?_eq_some hc, a, List.mem_of_find?_eq_some ha, r, by rw [← hm], by omega, by omega⟩
theorem goE_zero {p : List uT0} {n : List UInt8} : (goE p n).2 = 0 ↔ (splitE p n).2 = 0 := by
 unfold goE; split
 ·rename_i h; simp [h]
 ·rfl

section
variable {p : List uT0} (h0 : planE p = 0) {c : uT0} (hc : c ∈ p) {h : uT3}
include h0 hc
theorem reach_abroad {x : uT0} (hx : x ∈ p) {y : uT2} (hy : y ∈ x.Areas) {r : List UInt8} (hr : Dg r) (h1 : y.Low ≤ (y.Prefix.length : Int) + r.length) (h2 : (y.Prefix.length : Int) + r.length ≤ y.High) (h3 : (c.Abroad ++ (x.Code ++ (y.Prefix ++ r))).length ≤ 30) :
  (reachE p c h (c.Abroad ++ (x.Code ++ (y.Prefix ++ r)))).2 = 0 := by
 have cf := country_all h0 hc;have cx := country_all h0 hx;obtain ⟨k, hk⟩ := List.mem_iff_getElem?.1 hy;have af := area_all (cx.areas k y hk);have lab := dig_len cf.abroad;have hd : digB (c.Abroad ++ (x.Code ++ (y.Prefix ++ r))) 1 30 = true := dg_to ((dg_of cf.abroad).app ((dg_of cx.code).app ((dg_of af.digits).app hr))) (by rw [List.length_append]; omega) (by omega);unfold reachE;rw [hd, hp_app, List.drop_left];simp only [Bool.not_true, cond_false, cond_true];rw [goE_zero, split_ok h0 hx hy hr h1 h2]
theorem not_abroad {y : uT2} (hy : y ∈ c.Areas) (r : List UInt8) : hpB (c.Trunk ++ (y.Prefix ++ r)) c.Abroad = false := by
 have cf := country_all h0 hc;obtain ⟨k, hk⟩ := List.mem_iff_getElem?.1 hy;have af := area_all (cf.areas k y hk);cases hq : hpB (c.Trunk ++ (y.Prefix ++ r)) c.Abroad with
 | false => rfl
 | true =>
  have h2 : hpB (c.Trunk ++ (y.Prefix ++ r)) (c.Trunk ++ y.Prefix) = true := by rw [← List.append_assoc]; exact hp_app _ _
  rcases take_both hq h2 with q | q
  ·rw [af.down] at q; simp at q
  ·rw [af.up] at q; simp at q
theorem reach_trunk {y : uT2} (hy : y ∈ c.Areas) {r : List UInt8} (hr : Dg r) (h1 : y.Low ≤ (y.Prefix.length : Int) + r.length) (h2 : (y.Prefix.length : Int) + r.length ≤ y.High) (h3 : (c.Trunk ++ (y.Prefix ++ r)).length ≤ 30) :
  (reachE p c h (c.Trunk ++ (y.Prefix ++ r))).2 = 0 := by
 have cf := country_all h0 hc;obtain ⟨k, hk⟩ := List.mem_iff_getElem?.1 hy;have af := area_all (cf.areas k y hk);have la := dig_len af.digits;have hd : digB (c.Trunk ++ (y.Prefix ++ r)) 1 30 = true := dg_to ((dg_of cf.trunk).app ((dg_of af.digits).app hr)) (by simp; omega) (by omega);unfold reachE;rw [hd, not_abroad h0 hc hy, hp_app, List.drop_left];simp only [Bool.not_true, cond_false, cond_true];rw [goE_zero, split_ok h0 hc hy hr h1 h2]
theorem reach_local {y : uT2} (hy : y ∈ c.Areas) (hA : h.Area = y.Prefix) {t : List UInt8} (ht : Dg t) (n1 : hpB t c.Abroad = false) (n2 : hpB t c.Trunk = false) (l1 : 1 ≤ t.length) (l2 : t.length ≤ 30) (h1 : y.Low ≤ (y.Prefix.length : Int) + t.length) (h2 : (y.Prefix.length : Int) + t.length ≤ y.High) :
  (reachE p c h t).2 = 0 := by
 have cf := country_all h0 hc;obtain ⟨k, hk⟩ := List.mem_iff_getElem?.1 hy;have af := area_all (cf.areas k y hk);have la := dig_len af.digits;have hd : digB t 1 30 = true := dg_to ht (by omega) (by omega);have hne : (y.Prefix == []) = false := by
  cases hq : y.Prefix with
  | nil => rw [hq] at la; simp at la
  | cons => rfl
 unfold reachE;rw [hd, n1, n2, hA, hne];simp only [Bool.not_true, Bool.not_false, cond_false, cond_true];rw [goE_zero, split_ok h0 hc hy ht h1 h2]
theorem reach_back {a : uT2} (hr : homeR p h = (c, a, 0)) (hf : p.find? (fun c => c.Code == h.Country) = some c) {t : List UInt8} (ht : (reachE p c h t).2 = 0) :
    (Dg t ∧ 1 ≤ t.length ∧ t.length ≤ 30) ∧
    ((∃ x, x ∈ p ∧ ∃ y, y ∈ x.Areas ∧ ∃ r, t = c.Abroad ++ (x.Code ++ (y.Prefix ++ r)) ∧ y.Low ≤ (y.Prefix.length : Int) + r.length ∧ (y.Prefix.length : Int) + r.length ≤ y.High) ∨
     (∃ y, y ∈ c.Areas ∧ ∃ r, t = c.Trunk ++ (y.Prefix ++ r) ∧ y.Low ≤ (y.Prefix.length : Int) + r.length ∧ (y.Prefix.length : Int) + r.length ≤ y.High) ∨
     (a ∈ c.Areas ∧ a.Prefix ≠ [] ∧ hpB t c.Abroad = false ∧ hpB t c.Trunk = false ∧ a.Low ≤ (a.Prefix.length : Int) + t.length ∧ (a.Prefix.length : Int) + t.length ≤ a.High)) := by
  have hap := apart_of h0;have cf := country_all h0 hc;unfold reachE at ht;cases hd : digB t 1 30 with
  | false => rw [hd] at ht; simp at ht
  | true =>
    have dl := dig_len hd;rw [hd] at ht;simp only [Bool.not_true, cond_false] at ht;refine ⟨⟨dg_of hd, by omega, by omega⟩, ?_⟩;cases hA : hpB t c.Abroad with
    | true =>
      rw [hA] at ht;simp only [cond_true, goE_zero] at ht;obtain ⟨x, hx, y, hy, r, e, b1, b2⟩ := split_bnd h0 ht;have e := (List.cons.inj e).2;exact .inl ⟨x, hx, y, hy, r, by rw [← e]; exact hp_at hA, b1, b2⟩
    | false =>
      rw [hA] at ht;simp only [cond_false] at ht;cases hT : hpB t c.Trunk with
      | true =>
        rw [hT] at ht;simp only [cond_true, goE_zero] at ht;obtain ⟨x, hx, y, hy, r, e, b1, b2⟩ := split_bnd h0 ht;have e := (List.cons.inj e).2;have q1 : hpB (c.Code ++ t.drop c.Trunk.length) c.Code = true := hp_app _ _;have q2 : hpB (c.Code ++ t.drop c.Trunk.length) x.Code = true := by rw [e]; exact hp_app _ _
        have f1 := find_only (q := fun o : uT0 => hpB (c.Code ++ t.drop c.Trunk.length) o.Code) (hap.one _) hc q1;have f2 := find_only (q := fun o : uT0 => hpB (c.Code ++ t.drop c.Trunk.length) o.Code) (hap.one _) hx q2;rw [f1] at f2;obtain rfl := Option.some.inj f2;have e := List.append_cancel_left e;exact .inr (.inl ⟨y, hy, r, by rw [← e]; exact hp_at hT, b1, b2⟩)
      | false =>
        rw [hT] at ht;simp only [cond_false] at ht;cases hE : h.Area == [] with
        | true => rw [hE] at ht; simp at ht
        | false =>
          rw [hE] at ht;simp only [Bool.not_false, cond_true, goE_zero] at ht;obtain ⟨x, hx, y, hy, r, e, b1, b2⟩ := split_bnd h0 ht;have e := (List.cons.inj e).2;have q1 : hpB (c.Code ++ (h.Area ++ t)) c.Code = true := hp_app _ _;have q2 : hpB (c.Code ++ (h.Area ++ t)) x.Code = true := by rw [e]; exact hp_app _ _
          have f1 := find_only (q := fun o : uT0 => hpB (c.Code ++ (h.Area ++ t)) o.Code) (hap.one _) hc q1;have f2 := find_only (q := fun o : uT0 => hpB (c.Code ++ (h.Area ++ t)) o.Code) (hap.one _) hx q2;rw [f1] at f2;obtain rfl := Option.some.inj f2;have e := List.append_cancel_left e;have hne : ¬ (h.Area == []) = true := by rw [hE]; simp
          simp only [homeR, hf, if_neg hne] at hr;cases hg2 : c.Areas.find? (fun a => a.Prefix == h.Area) with
          | none => rw [hg2] at hr; simp at hr
          | some a0 =>
            rw [hg2] at hr;obtain rfl : a0 = a := by simpa using hr
            have b3 := List.mem_of_find?_eq_some hg2;have b4 : a0.Prefix = h.Area := by simpa using List.find?_some (p := fun a : uT2 => a.Prefix == h.Area) hg2
            have g1 := find_only (q := fun o : uT2 => hpB (h.Area ++ t) o.Prefix) (cf.one _) b3 (by simp only [b4]; exact hp_app _ _);have g2 := find_only (q := fun o : uT2 => hpB (h.Area ++ t) o.Prefix) (cf.one _) hy (by simp only [e]; exact hp_app _ _);rw [g1] at g2;obtain rfl := Option.some.inj g2;rw [← b4] at e;have e := List.append_cancel_left e;subst e;exact .inr (.inr ⟨b3, by rw [b4]; simpa using hE, rfl, rfl, b1, b2⟩)
end
def goB (d f : List UInt8) (low high : Int) : Bool := (hpB f d || hpB d f) && decide (gmax ((f.length : Int) + low) ((d.length : Int) + 1) ≤ gmin ((f.length : Int) + high) 30)
theorem go_iff {d f : List UInt8} {low high : Int} : goB d f low high = true ↔ (hpB f d = true ∨ hpB d f = true) ∧ (f.length : Int) + low ≤ f.length + high ∧ (f.length : Int) + low ≤ 30 ∧ (d.length : Int) + 1 ≤ f.length + high ∧ (d.length : Int) + 1 ≤ 30 := by
 unfold goB gmax gmin;simp only [Bool.and_eq_true, Bool.or_eq_true, decide_eq_true_eq];refine and_congr Iff.rfl ?_;split <;> split <;> omega
def locB (c : uT0) (a : uT2) (d : List UInt8) : Bool := !(a.Prefix == [] || c.Trunk == [] || hpB d c.Abroad || hpB d c.Trunk) && goB d [] (a.Low - a.Prefix.length) (a.High - a.Prefix.length)
def longB (p : List uT0) (c : uT0) (a : uT2) (d : List UInt8) : Bool :=
  p.any (fun x => x.Areas.any fun y => goB d (c.Abroad ++ (x.Code ++ y.Prefix)) (y.Low - y.Prefix.length) (y.High - y.Prefix.length)) || (c.Areas.any (fun y => goB d (c.Trunk ++ y.Prefix) (y.Low - y.Prefix.length) (y.High - y.Prefix.length)) || locB c a d)
def ofC (c o : uT0) (a : uT2) : List (List UInt8) := (c.Abroad ++ (o.Code ++ a.Prefix)) :: (if (o.Code == c.Code) = true then [c.Trunk ++ a.Prefix] else [])
def basesE (p : List uT0) (c : uT0) : List (List UInt8) := [] :: p.flatMap fun o => o.Areas.flatMap fun a => ofC c o a
def ext (s d : List UInt8) : List UInt8 := if s.length < d.length then d else s
def dgt (D : Nat) : UInt8 := (digs[D]?).getD 48
def endB (p : List uT0) (c : uT0) (h : uT3) (d t : List UInt8) : Bool := ((reachE p c h t).2 == 0) && decide (d.length < t.length)
def refB (p : List uT0) (c : uT0) (h : uT3) (d : List UInt8) : Bool :=
  (basesE p c).any fun s => (hpB s d || hpB d s) && (List.range 10).any fun D => (List.range (31 - (ext s d).length)).any fun m => endB p c h d (ext s d ++ List.replicate m (dgt D))

theorem ext_at {f d : List UInt8} (hc : hpB f d = true ∨ hpB d f = true) (hd : Dg d) : ∃ r, ext f d = f ++ r ∧ Dg r ∧ (ext f d).length = max f.length d.length := by
 unfold ext;split
 ·rename_i hl
  have hp : hpB d f = true := by
   rcases hc with q | q
   ·have := hp_len q; omega
   ·exact q
  have e := hp_at hp;refine ⟨d.drop f.length, e, ?_, by omega⟩;rw [e] at hd; exact hd.right
 ·exact ⟨[], by simp, fun b hb => by simp at hb, by omega⟩
theorem ext_pre {s d : List UInt8} (hc : hpB s d = true ∨ hpB d s = true) (r : List UInt8) : hpB (ext s d ++ r) d = true := by
 unfold ext;split
 ·exact hp_app _ _
 ·rename_i hl
  have hp : hpB s d = true := by
   rcases hc with q | q
   ·exact q
   ·have := hp_len q
    have e := hp_at q;have hz : d.drop s.length = [] := List.drop_of_length_le (by omega);rw [hz, List.append_nil] at e;rw [e]; exact hp_self _
  have e := hp_at hp;rw [e, List.append_assoc]; exact hp_app _ _
theorem dgt_dg (D : Nat) (h : D < 10) (m : Nat) : Dg (List.replicate m (dgt D)) := fun b hb => by
 obtain rfl := (List.mem_replicate.1 hb).2
 have : (List.range 10).all (fun D => digs.contains (dgt D)) = true := by decide
 exact List.all_eq_true.1 this D (List.mem_range.2 h)
theorem two_off (a b : UInt8) : ∃ D, D < 10 ∧ dgt D ≠ a ∧ dgt D ≠ b := by
 have e0 : dgt 0 = 48 := rfl;have e1 : dgt 1 = 49 := rfl;have e2 : dgt 2 = 50 := rfl;by_cases q0 : (48 : UInt8) = a ∨ (48 : UInt8) = b
 ·by_cases q1 : (49 : UInt8) = a ∨ (49 : UInt8) = b
  ·refine ⟨2, by omega, ?_, ?_⟩
   ·rw [e2]; rintro rfl
    rcases q0 with q | q
    ·exact absurd q (by decide)
    ·subst q
     rcases q1 with q | q
     ·exact absurd q (by decide)
     ·exact absurd q (by decide)
   ·rw [e2]; rintro rfl
    rcases q0 with q | q
    ·subst q
     rcases q1 with q | q
     ·exact absurd q (by decide)
     ·exact absurd q (by decide)
    ·exact absurd q (by decide)
  ·refine ⟨1, by omega, ?_, ?_⟩
   ·rw [e1]; exact fun q => q1 (.inl q)
   ·rw [e1]; exact fun q => q1 (.inr q)
 ·refine ⟨0, by omega, ?_, ?_⟩
  ·rw [e0]; exact fun q => q0 (.inl q)
  ·rw [e0]; exact fun q => q0 (.inr q)
theorem hp_rep {d A : List UInt8} {m : Nat} {D : UInt8} (hd : hpB d A = false) (hD : D ≠ (A[d.length]?).getD 0) : hpB (d ++ List.replicate m D) A = false := by
 cases hq : hpB (d ++ List.replicate m D) A with
 | false => rfl
 | true =>
  exfalso;have hl := hp_len hq;have e := hp_at hq;by_cases hle : A.length ≤ d.length
  ·have : hpB d A = true := by
    simp only [hpB, Bool.and_eq_true, decide_eq_true_eq, beq_iff_eq];refine ⟨hle, ?_⟩
    have := congrArg (List.take A.length) e
    rw [List.take_append_of_le_length hle, List.take_left] at this;exact this
   rw [hd] at this; simp at this
  ·have h1 := congrArg (·[d.length]?) e
   have h2 : d.length < A.length := by omega
   simp only [List.length_append, List.length_replicate] at hl;have hm : 0 < m := by omega
   rw [List.getElem?_append_right (Nat.le_refl _), Nat.sub_self, List.getElem?_append_left h2] at h1;rw [List.getElem?_replicate] at h1;rw [if_pos hm] at h1;apply hD;rw [← h1]; rfl

section
variable {p : List uT0} (h0 : planE p = 0) {c : uT0} (hc : c ∈ p) {h : uT3} {d : List UInt8} (hd : Dg d)
theorem ref_of {s : List UInt8} (hs : s ∈ basesE p c) (hcp : hpB s d = true ∨ hpB d s = true) {D m : Nat} (hD : D < 10) (hl : (ext s d).length + m ≤ 30) (hdl : d.length < (ext s d).length + m) (hr : (reachE p c h (ext s d ++ List.replicate m (dgt D))).2 = 0) : refB p c h d = true := by
 unfold refB;rw [List.any_eq_true];refine ⟨s, hs, ?_⟩;rw [Bool.and_eq_true];refine ⟨by simpa using hcp, ?_⟩;rw [List.any_eq_true];refine ⟨D, List.mem_range.2 hD, ?_⟩;rw [List.any_eq_true];refine ⟨m, List.mem_range.2 (by omega), ?_⟩;simp only [endB, hr, beq_self_eq_true, Bool.true_and, decide_eq_true_eq, List.length_append, List.length_replicate];exact hdl
theorem base_a {x : uT0} (hx : x ∈ p) {y : uT2} (hy : y ∈ x.Areas) : c.Abroad ++ (x.Code ++ y.Prefix) ∈ basesE p c :=
 List.mem_cons_of_mem _ (List.mem_flatMap.2 ⟨x, hx, List.mem_flatMap.2 ⟨y, hy, by simp [ofC]⟩⟩)
include hc in
theorem base_t {y : uT2} (hy : y ∈ c.Areas) : c.Trunk ++ y.Prefix ∈ basesE p c :=
 List.mem_cons_of_mem _ (List.mem_flatMap.2 ⟨c, hc, List.mem_flatMap.2 ⟨y, hy, by simp [ofC]⟩⟩)
include h0 hc hd
theorem long_ref {a : uT2} (hr : homeR p h = (c, a, 0)) (hf : p.find? (fun c => c.Code == h.Country) = some c) : longB p c a d = refB p c h d := by
 have cf := country_all h0 hc;rw [Bool.eq_iff_iff];constructor
 ·intro hl
  unfold longB at hl;rw [Bool.or_eq_true, Bool.or_eq_true] at hl;rcases hl with hl | hl | hl
  ·obtain ⟨x, hx, hl⟩ := List.any_eq_true.1 hl
   obtain ⟨y, hy, hl⟩ := List.any_eq_true.1 hl;obtain ⟨g1, g2, g3, g4, g5⟩ := go_iff.1 hl;have cx := country_all h0 hx;obtain ⟨k, hk⟩ := List.mem_iff_getElem?.1 hy;have af := area_all (cx.areas k y hk);obtain ⟨l1, l2, l3, l4⟩ := af.low;obtain ⟨r, e1, e2, e3⟩ := ext_at g1 hd;obtain ⟨F, hF⟩ : ∃ F, c.Abroad ++ (x.Code ++ y.Prefix) = F := ⟨_, rfl⟩;rw [hF] at e1 e3 g1 g2 g3 g4;obtain ⟨L, hL⟩ : ∃ L : Nat, (L : Int) = max ((F.length : Int) + (y.Low - y.Prefix.length)) ((d.length : Int) + 1) := ⟨(max ((F.length : Int) + (y.Low - y.Prefix.length)) ((d.length : Int) + 1)).toNat, by omega⟩;have hs := base_a (c := c) hx hy;rw [hF] at hs;have hrl : F.length + r.length = max F.length d.length := by rw [← e3, e1]; simp
   refine ref_of hs g1 (D := 0) (m := L - max F.length d.length) (by omega) (by omega) (by omega) ?_;rw [e1, ← hF];have hass : c.Abroad ++ (x.Code ++ y.Prefix) ++ r ++ List.replicate (L - max F.length d.length) (dgt 0) = c.Abroad ++ (x.Code ++ (y.Prefix ++ (r ++ List.replicate (L - max F.length d.length) (dgt 0)))) := by simp
   rw [hF] at hass ⊢;rw [hass];have hFl : F.length = c.Abroad.length + (x.Code.length + y.Prefix.length) := by rw [← hF]; simp
   refine reach_abroad h0 hc hx hy (e2.app (dgt_dg 0 (by omega) _)) ?_ ?_ ?_
   ·simp only [List.length_append, List.length_replicate]; omega
   ·simp only [List.length_append, List.length_replicate]; omega
   ·simp only [List.length_append, List.length_replicate]; omega
  ·obtain ⟨y, hy, hl⟩ := List.any_eq_true.1 hl
   obtain ⟨g1, g2, g3, g4, g5⟩ := go_iff.1 hl;obtain ⟨k, hk⟩ := List.mem_iff_getElem?.1 hy;have af := area_all (cf.areas k y hk);obtain ⟨l1, l2, l3, l4⟩ := af.low;obtain ⟨r, e1, e2, e3⟩ := ext_at g1 hd;obtain ⟨F, hF⟩ : ∃ F, c.Trunk ++ y.Prefix = F := ⟨_, rfl⟩;rw [hF] at e1 e3 g1 g2 g3 g4;obtain ⟨L, hL⟩ : ∃ L : Nat, (L : Int) = max ((F.length : Int) + (y.Low - y.Prefix.length)) ((d.length : Int) + 1) := ⟨(max ((F.length : Int) + (y.Low - y.Prefix.length)) ((d.length : Int) + 1)).toNat, by omega⟩;have hs := base_t (p := p) hc hy;rw [hF] at hs;have hrl : F.length + r.length = max F.length d.length := by rw [← e3, e1]; simp
   refine ref_of hs g1 (D := 0) (m := L - max F.length d.length) (by omega) (by omega) (by omega) ?_;rw [e1, ← hF];have hass : c.Trunk ++ y.Prefix ++ r ++ List.replicate (L - max F.length d.length) (dgt 0) = c.Trunk ++ (y.Prefix ++ (r ++ List.replicate (L - max F.length d.length) (dgt 0))) := by simp
   rw [hF] at hass ⊢;rw [hass];have hFl : F.length = c.Trunk.length + y.Prefix.length := by rw [← hF]; simp
   refine reach_trunk h0 hc hy (e2.app (dgt_dg 0 (by omega) _)) ?_ ?_ ?_
   ·simp only [List.length_append, List.length_replicate]; omega
   ·simp only [List.length_append, List.length_replicate]; omega
   ·simp only [List.length_append, List.length_replicate]; omega
  ·unfold locB at hl
   simp only [Bool.and_eq_true, Bool.not_eq_true', Bool.or_eq_false_iff] at hl;obtain ⟨⟨⟨⟨q1, q2⟩, q3⟩, q4⟩, hl⟩ := hl;obtain ⟨g1, g2, g3, g4, g5⟩ := go_iff.1 hl;simp only [List.length_nil, Int.natCast_zero, Int.zero_add] at g2 g3 g4
   -- the home's area is one of the country's
   have hA : a ∈ c.Areas ∧ h.Area = a.Prefix := by
    simp only [homeR, hf] at hr;split at hr
    ·have : noA = a := by simpa using hr
     subst this;simp [noA] at q1
    ·cases hg2 : c.Areas.find? (fun a => a.Prefix == h.Area) with
     | none => rw [hg2] at hr; simp at hr
     | some a0 =>
      rw [hg2] at hr;obtain rfl : a0 = a := by simpa using hr
      refine ⟨List.mem_of_find?_eq_some hg2, ?_⟩;have : a0.Prefix = h.Area := by simpa using List.find?_some (p := fun a : uT2 => a.Prefix == h.Area) hg2
      exact this.symm
   obtain ⟨hy, hA⟩ := hA;obtain ⟨k, hk⟩ := List.mem_iff_getElem?.1 hy;have af := area_all (cf.areas k a hk);obtain ⟨l1, l2, l3, l4⟩ := af.low;have hex : ext [] d = d := by
    unfold ext;split
    ·rfl
    ·rename_i hq
     simp only [List.length_nil] at hq;exact (List.length_eq_zero_iff.1 (by omega)).symm
   obtain ⟨L, hL⟩ : ∃ L : Nat, (L : Int) = max (a.Low - a.Prefix.length) ((d.length : Int) + 1) := ⟨(max (a.Low - a.Prefix.length) ((d.length : Int) + 1)).toNat, by omega⟩;obtain ⟨D, hD, n1, n2⟩ := two_off ((c.Abroad[d.length]?).getD 0) ((c.Trunk[d.length]?).getD 0);refine ref_of (s := []) (by simp [basesE]) (.inr (by simp [hpB])) (D := D) (m := L - d.length) hD (by rw [hex]; omega) (by rw [hex]; omega) ?_;rw [hex];refine reach_local h0 hc hy hA (hd.app (dgt_dg D hD _)) (hp_rep q3 n1) (hp_rep q4 n2) ?_ ?_ ?_ ?_
   ·simp only [List.length_append, List.length_replicate]; omega
   ·simp only [List.length_append, List.length_replicate]; omega
   ·simp only [List.length_append, List.length_replicate]; omega
   ·simp only [List.length_append, List.length_replicate]; omega
 ·intro hl
  unfold refB at hl;obtain ⟨s, hs, hl⟩ := List.any_eq_true.1 hl;rw [Bool.and_eq_true] at hl;obtain ⟨hcp, hl⟩ := hl;obtain ⟨D, hD, hl⟩ := List.any_eq_true.1 hl;obtain ⟨m, hm, hl⟩ := List.any_eq_true.1 hl;simp only [endB, Bool.and_eq_true, beq_iff_eq, decide_eq_true_eq] at hl;have hpre := ext_pre (by simpa using hcp) (List.replicate m (dgt D)) (s := s) (d := d);generalize ext s d ++ List.replicate m (dgt D) = t at hl hpre;obtain ⟨ht, hlt⟩ := hl;obtain ⟨⟨t1, t2, t3⟩, hb⟩ := reach_back h0 hc hr hf ht;unfold longB;rw [Bool.or_eq_true, Bool.or_eq_true];rcases hb with ⟨x, hx, y, hy, r, rfl, b1, b2⟩ | ⟨y, hy, r, rfl, b1, b2⟩ | ⟨ha, hne, n1, n2, b1, b2⟩
  ·refine .inl (List.any_eq_true.2 ⟨x, hx, List.any_eq_true.2 ⟨y, hy, go_iff.2 ⟨?_, ?_⟩⟩⟩)
   ·have : hpB (c.Abroad ++ (x.Code ++ (y.Prefix ++ r))) (c.Abroad ++ (x.Code ++ y.Prefix)) = true := by
     have e : c.Abroad ++ (x.Code ++ (y.Prefix ++ r)) = (c.Abroad ++ (x.Code ++ y.Prefix)) ++ r := by simp
     rw [e]; exact hp_app _ _
    exact take_both this hpre
   ·simp only [List.length_append] at t3 hlt ⊢
    omega
  ·refine .inr (.inl (List.any_eq_true.2 ⟨y, hy, go_iff.2 ⟨?_, ?_⟩⟩))
   ·have : hpB (c.Trunk ++ (y.Prefix ++ r)) (c.Trunk ++ y.Prefix) = true := by
     rw [← List.append_assoc]; exact hp_app _ _
    exact take_both this hpre
   ·simp only [List.length_append] at t3 hlt ⊢
    omega
  ·refine .inr (.inr ?_)
   have pre : ∀ A, hpB d A = true → hpB t A = true := fun A hq => by
    have e1 := hp_at hpre;have e2 := hp_at hq;rw [e1, e2, List.append_assoc]; exact hp_app _ _
   have z1 : hpB d c.Abroad = false := by
    cases hq : hpB d c.Abroad with
    | false => rfl
    | true => rw [pre _ hq] at n1; simp at n1
   have z2 : hpB d c.Trunk = false := by
    cases hq : hpB d c.Trunk with
    | false => rfl
    | true => rw [pre _ hq] at n2; simp at n2
   have z3 : (c.Trunk == []) = false := by
    cases hq : c.Trunk with
    | nil => rw [hq] at n2; simp [hpB] at n2
    | cons => rfl
   have z4 : (a.Prefix == []) = false := by simpa using hne
   unfold locB;simp only [z1, z2, z3, z4, Bool.or_self, Bool.not_false, Bool.true_and];refine go_iff.2 ⟨.inr (by simp [hpB]), ?_⟩;simp only [List.length_nil, Int.natCast_zero, Int.zero_add];omega
end
theorem any_loop {α S : Type} {step : S → Option (S ⊕ (Unit ⊕ Bool))} (l : List α) (enc : Nat → S) (q : α → Bool)
  (h : ∀ (i : Nat) (a : α), l[i]? = some a → step (enc i) = some (if q a = true then .inr (.inr true) else .inl (enc (i + 1)))) (hend : step (enc l.length) = some (.inr (.inl ()))) :
  loopO step (enc 0) = some (if l.any q = true then .inr true else .inl ()) := by
 have h1 := first_loop l enc (fun a => if q a = true then some true else none) () (fun i a ha => by
  rw [h i a ha];by_cases hq : q a = true <;> simp [hq]) hend
 rw [h1];have : l.findSome? (fun a => if q a = true then some true else none) = if l.any q = true then some true else none := by
  clear h h1 hend;induction l with
  | nil => rfl
  | cons a l ih =>
   simp only [List.findSome?_cons, List.any_cons];by_cases hq : q a = true
   ·simp [hq]
   ·have hq' : q a = false := by simpa using hq
    simp only [hq', Bool.false_eq_true, if_false, Bool.false_or];exact ih
 rw [this];by_cases hq : l.any q = true
 ·simp only [hq, if_true]; rfl
 ·simp only [hq]; rfl
theorem goesOn_is {d f : List UInt8} {low high : Int} (h1 : d.length ≤ 1000) (h2 : f.length ≤ 1000) (h3 : -100000000000000 ≤ low ∧ low ≤ 100000000000000) (h4 : -100000000000000 ≤ high ∧ high ≤ 100000000000000) : uF167 d f low high = some (goB d f low high) := by
 unfold uF167 goB;rw [w64 (n := (f.length : Int) + low) (by omega) (by omega), w64 (n := (d.length : Int) + 1) (by omega) (by omega), w64 (n := (f.length : Int) + high) (by omega) (by omega)];simp only [hp_is, Option.bind_some, bnd];cases hpB f d <;> cases hpB d f <;> rfl
section
variable {p : List uT0} (hp : SmallP p) {c : uT0} (hc : c ∈ p) {d : List UInt8} (hd : d.length ≤ 100)
include hp hc hd
theorem longer_l1 {x : uT0} (hx : x ∈ p) : loopO (fun s : Int => uF106a c d x s) 0 = some (if (x.Areas.any fun y => goB d (c.Abroad ++ (x.Code ++ y.Prefix)) (y.Low - y.Prefix.length) (y.High - y.Prefix.length)) = true then .inr true else .inl ()) := by
 obtain ⟨c1, c2, c3, c4, c5⟩ := hp.2 c hc;obtain ⟨x1, x2, x3, x4, x5⟩ := hp.2 x hx;exact any_loop (step := fun s : Int => uF106a c d x s) x.Areas (fun i => (i : Int)) (fun y => goB d (c.Abroad ++ (x.Code ++ y.Prefix)) (y.Low - y.Prefix.length) (y.High - y.Prefix.length)) (fun i y hi => by
  have hlt := (List.getElem?_eq_some_iff.1 hi).1;obtain ⟨y1, y2, y3, y4, y5⟩ := x5 y (List.mem_of_getElem? hi);have hdd : decide ((i : Int) < (x.Areas.length : Int)) = true := decide_eq_true (by omega);have s1 : sadd c.Abroad x.Code = some (c.Abroad ++ x.Code) := sadd_of (by omega);have s2 : sadd (c.Abroad ++ x.Code) y.Prefix = some (c.Abroad ++ (x.Code ++ y.Prefix)) := by rw [sadd_of (by simp; omega), List.append_assoc]
  have g := goesOn_is (d := d) (f := c.Abroad ++ (x.Code ++ y.Prefix)) (low := y.Low - y.Prefix.length) (high := y.High - y.Prefix.length) (by omega) (by simp; omega) (by omega) (by omega);simp only [uF106a, hdd, cond_true, idx_nat, hi, Option.bind_some, s1, s2, w64 (n := y.Low - (y.Prefix.length : Int)) (by omega) (by omega), w64 (n := y.High - (y.Prefix.length : Int)) (by omega) (by omega), w64 (n := (i : Int) + 1) (by omega) (by omega), g];cases goB d (c.Abroad ++ (x.Code ++ y.Prefix)) (y.Low - y.Prefix.length) (y.High - y.Prefix.length) <;> simp) (by simp [uF106a])
theorem longer_l0 : loopO (fun s : Int => uF106 p c d s) 0 = some (if (p.any fun x => x.Areas.any fun y => goB d (c.Abroad ++ (x.Code ++ y.Prefix)) (y.Low - y.Prefix.length) (y.High - y.Prefix.length)) = true then .inr true else .inl ()) := by
 have hl := hp.1;exact any_loop (step := fun s : Int => uF106 p c d s) p (fun i => (i : Int)) (fun x => x.Areas.any fun y => goB d (c.Abroad ++ (x.Code ++ y.Prefix)) (y.Low - y.Prefix.length) (y.High - y.Prefix.length)) (fun i x hi => by
  have hlt := (List.getElem?_eq_some_iff.1 hi).1;have hdd : decide ((i : Int) < (p.length : Int)) = true := decide_eq_true (by omega);simp only [uF106, hdd, cond_true, idx_nat, hi, Option.bind_some, longer_l1 hp hc hd (List.mem_of_getElem? hi), w64 (n := (i : Int) + 1) (by omega) (by omega)];by_cases hq : (x.Areas.any fun y => goB d (c.Abroad ++ (x.Code ++ y.Prefix)) (y.Low - y.Prefix.length) (y.High - y.Prefix.length)) = true
  ·simp only [hq, if_true]; rfl
  ·simp only [hq]; rfl) (by simp [uF106])
theorem longer_l2 : loopO (fun s : Int => uF106b c d s) 0 = some (if (c.Areas.any fun y => goB d (c.Trunk ++ y.Prefix) (y.Low - y.Prefix.length) (y.High - y.Prefix.length)) = true then .inr true else .inl ()) := by
 obtain ⟨c1, c2, c3, c4, c5⟩ := hp.2 c hc;exact any_loop (step := fun s : Int => uF106b c d s) c.Areas (fun i => (i : Int)) (fun y => goB d (c.Trunk ++ y.Prefix) (y.Low - y.Prefix.length) (y.High - y.Prefix.length)) (fun i y hi => by
  have hlt := (List.getElem?_eq_some_iff.1 hi).1;obtain ⟨y1, y2, y3, y4, y5⟩ := c5 y (List.mem_of_getElem? hi);have hdd : decide ((i : Int) < (c.Areas.length : Int)) = true := decide_eq_true (by omega);have s1 : sadd c.Trunk y.Prefix = some (c.Trunk ++ y.Prefix) := sadd_of (by omega);have g := goesOn_is (d := d) (f := c.Trunk ++ y.Prefix) (low := y.Low - y.Prefix.length) (high := y.High - y.Prefix.length) (by omega) (by simp; omega) (by omega) (by omega);simp only [uF106b, hdd, cond_true, idx_nat, hi, Option.bind_some, s1, w64 (n := y.Low - (y.Prefix.length : Int)) (by omega) (by omega), w64 (n := y.High - (y.Prefix.length : Int)) (by omega) (by omega), w64 (n := (i : Int) + 1) (by omega) (by omega), g];cases goB d (c.Trunk ++ y.Prefix) (y.Low - y.Prefix.length) (y.High - y.Prefix.length) <;> simp) (by simp [uF106b])
theorem longer_is {a : uT2} (ha : a.Prefix.length ≤ 10 ∧ -2000000000000 ≤ a.Low ∧ a.Low ≤ 2000000000000 ∧ -2000000000000 ≤ a.High ∧ a.High ≤ 2000000000000) : uF106c p c a d = some (longB p c a d) := by
 have hloc : uF168 c a d = some (locB c a d) := by
  have g := goesOn_is (d := d) (f := []) (low := a.Low - a.Prefix.length) (high := a.High - a.Prefix.length) (by omega) (by simp) (by omega) (by omega);unfold uF168 locB;rw [w64 (n := a.Low - (a.Prefix.length : Int)) (by omega) (by omega), w64 (n := a.High - (a.Prefix.length : Int)) (by omega) (by omega)];simp only [hp_is, Option.bind_some, g];cases a.Prefix == [] <;> cases c.Trunk == [] <;> cases hpB d c.Abroad <;> cases hpB d c.Trunk <;> rfl
 unfold uF106c longB;rw [longer_l0 hp hc hd, longer_l2 hp hc hd, hloc];cases (p.any fun x => x.Areas.any fun y => goB d (c.Abroad ++ (x.Code ++ y.Prefix)) (y.Low - y.Prefix.length) (y.High - y.Prefix.length)) with
 | true => rfl
 | false =>
  cases (c.Areas.any fun y => goB d (c.Trunk ++ y.Prefix) (y.Low - y.Prefix.length) (y.High - y.Prefix.length)) with
  | true => rfl
  | false => rfl
end

/-! The document's way. -/
section
variable {p : List uT0} (hp : SmallP p) {c : uT0} (hc : c ∈ p)
theorem of_len (o : uT0) (a : uT2) : (ofC c o a).length ≤ 2 := by unfold ofC; split <;> simp
theorem flat_len {α : Type} {g : α → List (List UInt8)} {B : Nat} : ∀ {l : List α}, (∀ a ∈ l, (g a).length ≤ B) → (l.flatMap g).length ≤ B * l.length
 | [], _ => by simp
 | a :: l, h => by
  have h1 := h a (by simp)
  have h2 := flat_len (l := l) fun b hb => h b (List.mem_cons_of_mem _ hb)
  simp only [List.flatMap_cons, List.length_append, List.length_cons, Nat.mul_add, Nat.mul_one]
  omega
include hp hc
theorem bases_l1 {o : uT0} (ho : o ∈ p) (w : List (List UInt8)) (hw : w.length ≤ 1000) : loopO (fun s : List (List UInt8) × Int => uF107a c o s.1 s.2) (w, 0) = some (w ++ o.Areas.flatMap (ofC c o)) := by
 obtain ⟨c1, c2, c3, c4, c5⟩ := hp.2 c hc;obtain ⟨x1, x2, x3, x4, x5⟩ := hp.2 o ho
 have := loop_for (N := o.Areas.length) (step := fun s : List (List UInt8) × Int => uF107a c o s.1 s.2) (fun k => (w ++ (o.Areas.take k).flatMap (ofC c o), (k : Int))) (w ++ o.Areas.flatMap (ofC c o)) (fun k hk => by
  have hdd : decide ((k : Int) < (o.Areas.length : Int)) = true := decide_eq_true (by omega);obtain ⟨y1, _⟩ := x5 _ (List.getElem_mem hk);have s1 : sadd c.Abroad o.Code = some (c.Abroad ++ o.Code) := sadd_of (by omega);have s2 : sadd (c.Abroad ++ o.Code) o.Areas[k].Prefix = some (c.Abroad ++ (o.Code ++ o.Areas[k].Prefix)) := by rw [sadd_of (by simp; omega), List.append_assoc]
  have s3 : sadd c.Trunk o.Areas[k].Prefix = some (c.Trunk ++ o.Areas[k].Prefix) := sadd_of (by omega);have hfl : ((o.Areas.take k).flatMap (ofC c o)).length ≤ 2 * (o.Areas.take k).length := flat_len fun a _ => of_len o a;have htk : (o.Areas.take k).length ≤ 10 := by simp; omega
  have e : (o.Areas.take (k + 1)).flatMap (ofC c o) = (o.Areas.take k).flatMap (ofC c o) ++ ofC c o o.Areas[k] := by
   rw [List.take_succ_eq_append_getElem hk, List.flatMap_append]; simp
  have a1 : ∀ z : List UInt8, app 16 (w ++ (o.Areas.take k).flatMap (ofC c o)) [z] = some (w ++ (o.Areas.take k).flatMap (ofC c o) ++ [z]) := fun z => app_of (by simp only [List.length_append, List.length_singleton]; omega) (by simp only [List.length_append, List.length_singleton]; omega);have a2 : ∀ z z' : List UInt8, app 16 (w ++ (o.Areas.take k).flatMap (ofC c o) ++ [z]) [z'] = some (w ++ (o.Areas.take k).flatMap (ofC c o) ++ [z] ++ [z']) := fun z z' => app_of (by simp only [List.length_append, List.length_singleton]; omega) (by simp only [List.length_append, List.length_singleton]; omega);simp only [uF107a, hdd, cond_true, idx_at hk, Option.bind_some, s1, s2, s3, a1, a2, w64 (n := (k : Int) + 1) (by omega) (by omega), e];unfold ofC;cases o.Code == c.Code <;> simp) (by simp [uF107a])
 simpa using this
theorem bases_l0 : loopO (fun s : List (List UInt8) × Int => uF107 p c s.1 s.2) ([[]], 0) = some (basesE p c) := by
 have hl := hp.1
 have := loop_for (N := p.length) (step := fun s : List (List UInt8) × Int => uF107 p c s.1 s.2) (fun k => ([] :: (p.take k).flatMap (fun o => o.Areas.flatMap (ofC c o)), (k : Int))) (basesE p c) (fun k hk => by
  have hdd : decide ((k : Int) < (p.length : Int)) = true := decide_eq_true (by omega);have hfl : ((p.take k).flatMap (fun o => o.Areas.flatMap (ofC c o))).length ≤ 20 * (p.take k).length := flat_len fun o ho => by
   have h1 := (hp.2 o (List.mem_of_mem_take ho)).2.2.2.1.2;have h2 : (o.Areas.flatMap (ofC c o)).length ≤ 2 * o.Areas.length := flat_len fun a _ => of_len o a;omega
  have htk : (p.take k).length ≤ 3 := by simp; omega
  have e : (p.take (k + 1)).flatMap (fun o => o.Areas.flatMap (ofC c o)) = (p.take k).flatMap (fun o => o.Areas.flatMap (ofC c o)) ++ p[k].Areas.flatMap (ofC c p[k]) := by
   rw [List.take_succ_eq_append_getElem hk, List.flatMap_append]; simp
  have h1 := bases_l1 hp hc (List.getElem_mem hk) ([] :: (p.take k).flatMap (fun o => o.Areas.flatMap (ofC c o))) (by simp only [List.length_cons]; omega);simp only [uF107, hdd, cond_true, idx_at hk, Option.bind_some, h1, w64 (n := (k : Int) + 1) (by omega) (by omega), e];simp) (by simp [uF107, basesE])
 simpa using this
theorem bases_short : ∀ s ∈ basesE p c, s.length ≤ 30 := by
 obtain ⟨c1, c2, c3, c4, c5⟩ := hp.2 c hc;intro s hs;rcases List.mem_cons.1 hs with rfl | hs
 ·simp
 ·obtain ⟨o, ho, hs⟩ := List.mem_flatMap.1 hs
  obtain ⟨a, ha, hs⟩ := List.mem_flatMap.1 hs;obtain ⟨x1, x2, x3, x4, x5⟩ := hp.2 o ho;obtain ⟨y1, _⟩ := x5 a ha;unfold ofC at hs;split at hs
  ·simp only [List.mem_cons, List.not_mem_nil, or_false] at hs
   rcases hs with rfl | rfl <;> simp <;> omega
  ·simp only [List.mem_cons, List.not_mem_nil, or_false] at hs
   subst hs; simp; omega
end
theorem dig_one {D : Nat} (h : D < 10) : sub ([48, 49, 50, 51, 52, 53, 54, 55, 56, 57] : List UInt8) (D : Int) ((D : Int) + 1) = some [dgt D] := by
 have : (List.range 10).all (fun D => sub ([48, 49, 50, 51, 52, 53, 54, 55, 56, 57] : List UInt8) (D : Int) ((D : Int) + 1) == some [dgt D]) = true := by decide
 simpa using List.all_eq_true.1 this D (List.mem_range.2 h)
theorem rep_one (b : UInt8) : ∀ m : Nat, Lib.repeatL [b] m = List.replicate m b
 | 0 => rfl
 | m + 1 => by rw [List.replicate_succ, ← rep_one b m]; rfl
theorem repeat_is (b : UInt8) (m : Nat) (h : m ≤ 1000) : uF86 [b] (m : Int) = some (List.replicate m b) := by
 unfold uF86;rw [if_pos ⟨by omega, by omega, by simp; omega⟩, Int.toNat_natCast, rep_one]
theorem any_succ (f : Nat → Bool) (k : Nat) : (List.range (k + 1)).any f = ((List.range k).any f || f k) := by
 rw [List.range_succ, List.any_append]; simp
section
variable {p : List uT0} (hp : SmallP p) (h0 : planE p = 0) {c : uT0} {h : uT3} (hf : p.find? (fun c => c.Code == h.Country) = some c) (hh : h.Area.length ≤ 10) {d : List UInt8} (hd : d.length ≤ 100)
include hp h0 hf hh hd
omit hd in
theorem ref_l2 {s : List UInt8} (hs : s.length ≤ 100) {D : Nat} (hD : D < 10) (w : Bool) : loopO (fun t : Bool × Int => uF44b p h d s (D : Int) t.1 t.2) (w, 0) = some (w || (List.range (31 - s.length)).any fun m => endB p c h d (s ++ List.replicate m (dgt D))) := by
 have hg := hp.good;have hcl := (hp.2 c (List.mem_of_find?_eq_some hf)).1
 have := loop_for (N := 31 - s.length) (step := fun t : Bool × Int => uF44b p h d s (D : Int) t.1 t.2) (fun k => (w || (List.range k).any fun m => endB p c h d (s ++ List.replicate m (dgt D)), (k : Int))) (w || (List.range (31 - s.length)).any fun m => endB p c h d (s ++ List.replicate m (dgt D))) (fun k hk => by
  have hdd : decide ((k : Int) < IntKind.wrap .i64 (31 - (s.length : Int))) = true := by rw [w64 (by omega) (by omega)]; exact decide_eq_true (by omega)
  have hw : IntKind.wrap .i64 ((D : Int) + 1) = (D : Int) + 1 := w64 (by omega) (by omega);have hsa : sadd s (List.replicate k (dgt D)) = some (s ++ List.replicate k (dgt D)) := sadd_of (by simp; omega);have hre := reach_ref hg (apart_of h0) h hf (by omega) (by omega) (s ++ List.replicate k (dgt D)) (by simp; omega);simp only [uF44b, hdd, cond_true, hw, dig_one hD, Option.bind_some, repeat_is (dgt D) k (by omega), hsa, hre, w64 (n := (k : Int) + 1) (by omega) (by omega), any_succ];have he : ((reachE p c h (s ++ List.replicate k (dgt D))).2 == 0 && decide (((s ++ List.replicate k (dgt D)).length : Int) > (d.length : Int))) = endB p c h d (s ++ List.replicate k (dgt D)) := by
   unfold endB;congr 1;exact decide_eq_decide.2 (by omega)
  rw [he];cases endB p c h d (s ++ List.replicate k (dgt D))
  ·simp
  ·simp) (by
   have hdd : decide (((31 - s.length : Nat) : Int) < IntKind.wrap .i64 (31 - (s.length : Int))) = false := by rw [w64 (by omega) (by omega)]; exact decide_eq_false (by omega)
   simp only [uF44b, hdd, cond_false])
 simpa using this
omit hd in
theorem ref_l1 {s : List UInt8} (hs : s.length ≤ 100) (w : Bool) : loopO (fun t : Bool × Int => uF44a p h d s t.1 t.2) (w, 0) = some (w || (List.range 10).any fun D => (List.range (31 - s.length)).any fun m => endB p c h d (s ++ List.replicate m (dgt D))) := by
 have := loop_for (N := 10) (step := fun t : Bool × Int => uF44a p h d s t.1 t.2) (fun k => (w || (List.range k).any fun D => (List.range (31 - s.length)).any fun m => endB p c h d (s ++ List.replicate m (dgt D)), (k : Int))) _ (fun k hk => by
  have hdd : decide ((k : Int) < 10) = true := decide_eq_true (by omega);have e := ref_l2 (d := d) hp h0 hf hh hs hk (w || (List.range k).any fun D => (List.range (31 - s.length)).any fun m => endB p c h d (s ++ List.replicate m (dgt D)));simp only [uF44a, hdd, cond_true, e, Option.bind_some, w64 (n := (k : Int) + 1) (by omega) (by omega)];rw [any_succ (fun D => (List.range (31 - s.length)).any fun m => endB p c h d (s ++ List.replicate m (dgt D))) k, Bool.or_assoc];simp) (by simp only [uF44a]; rfl)
 simpa using this
theorem ref_l0 (B : List (List UInt8)) (hB : ∀ s ∈ B, s.length ≤ 30) (hBl : B.length ≤ 1000) : loopO (fun t : Bool × Int => uF44 p h d B t.1 t.2) (false, 0) = some (B.any fun s => (hpB s d || hpB d s) && (List.range 10).any fun D => (List.range (31 - (ext s d).length)).any fun m => endB p c h d (ext s d ++ List.replicate m (dgt D))) := by
 have := loop_for (N := B.length) (step := fun t : Bool × Int => uF44 p h d B t.1 t.2) (fun k => ((B.take k).any fun s => (hpB s d || hpB d s) && (List.range 10).any fun D => (List.range (31 - (ext s d).length)).any fun m => endB p c h d (ext s d ++ List.replicate m (dgt D)), (k : Int))) (B.any fun s => (hpB s d || hpB d s) && (List.range 10).any fun D => (List.range (31 - (ext s d).length)).any fun m => endB p c h d (ext s d ++ List.replicate m (dgt D))) (fun k hk => by
  have hdd : decide ((k : Int) < (B.length : Int)) = true := decide_eq_true (by omega);have hsl := hB _ (List.getElem_mem hk);have hext : (bif decide ((d.length : Int) > (B[k].length : Int)) then some d else some B[k]) = some (ext B[k] d) := by
   unfold ext;by_cases hq : B[k].length < d.length
   ·rw [decide_eq_true (show ((d.length : Int) > (B[k].length : Int)) by omega), if_pos hq]; rfl
   ·rw [decide_eq_false (show ¬ ((d.length : Int) > (B[k].length : Int)) by omega), if_neg hq]; rfl
  have hel : (ext B[k] d).length ≤ 100 := by unfold ext; split <;> omega
  have e := ref_l1 (d := d) hp h0 hf hh hel ((B.take k).any fun s => (hpB s d || hpB d s) && (List.range 10).any fun D => (List.range (31 - (ext s d).length)).any fun m => endB p c h d (ext s d ++ List.replicate m (dgt D)));have ht : ((B.take (k + 1)).any fun s => (hpB s d || hpB d s) && (List.range 10).any fun D => (List.range (31 - (ext s d).length)).any fun m => endB p c h d (ext s d ++ List.replicate m (dgt D))) = (((B.take k).any fun s => (hpB s d || hpB d s) && (List.range 10).any fun D => (List.range (31 - (ext s d).length)).any fun m => endB p c h d (ext s d ++ List.replicate m (dgt D))) || ((hpB B[k] d || hpB d B[k]) && (List.range 10).any fun D => (List.range (31 - (ext B[k] d).length)).any fun m => endB p c h d (ext B[k] d ++ List.replicate m (dgt D)))) := by
   rw [List.take_succ_eq_append_getElem hk, List.any_append]; simp
  simp only [uF44, hdd, cond_true, idx_at hk, hp_is, Option.bind_some, hext, e, w64 (n := (k : Int) + 1) (by omega) (by omega)];rw [ht];cases hpB B[k] d <;> cases hpB d B[k] <;> simp) (by simp [uF44])
 simpa using this
theorem progress_ref : uF44c p h d = some (bif ((reachE p c h d).2 == 0) && refB p c h d then 2 else bif (reachE p c h d).2 == 0 then 3 else bif refB p c h d then 1 else 0) := by
 have hg := hp.good;have hc := List.mem_of_find?_eq_some hf;have hcl := (hp.2 c hc).1;have hidx : idx p (idxI (fun c => c.Code == h.Country) p) = some c := by
  rcases idx_find (fun c : uT0 => c.Code == h.Country) p with ⟨i1, i2⟩ | ⟨i1, c', i2, i3, i4, i5⟩
  ·rw [i2] at hf; simp at hf
  ·rw [i3] at hf; rw [i2]; exact hf
 have hbl : (basesE p c).length ≤ 1000 := by
  have : ((p.flatMap fun o => o.Areas.flatMap fun a => ofC c o a)).length ≤ 20 * p.length := flat_len fun o ho => by
   have h1 := (hp.2 o ho).2.2.2.1.2;have h2 : (o.Areas.flatMap fun a => ofC c o a).length ≤ 2 * o.Areas.length := flat_len fun a _ => of_len o a;omega
  have hl := hp.1;unfold basesE; simp only [List.length_cons]; omega
 unfold uF44c uF107b;simp only [reach_ref hg (apart_of h0) h hf (by omega) (by omega) d (by omega), Option.bind_some, bnd, at_is hg, hidx, bases_l0 hp hc, ref_l0 hp h0 hf hh hd _ (bases_short hp hc) hbl];have : ((basesE p c).any fun s => (hpB s d || hpB d s) && (List.range 10).any fun D => (List.range (31 - (ext s d).length)).any fun m => endB p c h d (ext s d ++ List.replicate m (dgt D))) = refB p c h d := rfl;rw [this];cases (reachE p c h d).2 == 0 <;> cases refB p c h d <;> rfl
end
theorem row_digits (n : Int) (s : uT1) (k : Int) (h0 : 0 ≤ n) (hn : n ≤ 100) (hs : SOk s k) (hk : k ≤ 10000) : ∃ s' d, uF85a s n = some (s', d) ∧ SOk s' (k + n) ∧ (d.length : Int) = n ∧ Dg d := by
 obtain ⟨e, e1, e2, e3, e4⟩ := loopO_ind (step := fun s : List UInt8 × Int × uT1 => uF85 n s.1 s.2.1 s.2.2)
  (fun s => 0 ≤ s.2.1 ∧ s.2.1 ≤ n ∧ (s.1.length : Int) = s.2.1 ∧ Dg s.1 ∧ SOk s.2.2 (k + s.2.1)) (fun e => SOk e.2 (k + n) ∧ (e.1.length : Int) = n ∧ Dg e.1) (fun s => (n - s.2.1).toNat) (by
   rintro ⟨d, w, t⟩ ⟨g1, g2, g3, g5, g4⟩;simp only [] at g1 g2 g3 g4 g5;by_cases hw : w < n
   ·obtain ⟨r, er, hr⟩ := some_in t [([48] : List UInt8), [49], [50], [51], [48], [57], [53]] (k + w) g4 (by omega) (by simp) (by simp)
    have hl : r.length = 1 ∧ Dg r := by
     simp only [List.mem_cons, List.not_mem_nil, or_false] at hr;rcases hr with rfl | rfl | rfl | rfl | rfl | rfl | rfl <;> exact ⟨rfl, by unfold Dg digs; decide⟩
    refine .inr ⟨(d ++ r, w + 1, ⟨t.L, t.at_ + 1⟩), ?_, ⟨by simp only []; omega, by simp only []; omega, by simp only [List.length_append, hl.1]; omega, g5.app hl.2, ?_⟩, by simp only []; omega⟩
    ·simp only [uF85, decide_eq_true hw, cond_true, er, Option.bind_some, sadd_of (show d.length + r.length ≤ 4611686018427387904 by omega), w64 (n := w + 1) (by omega) (by omega)]
    ·have := g4.one; rwa [show k + w + 1 = k + (w + 1) from by omega] at this
   ·refine .inl ⟨(d, t), ?_, ?_, ?_, g5⟩
    ·simp only [uF85, decide_eq_false hw, cond_false]
    ·exact g4.up (by omega)
    ·simp only []; omega) ([], 0, s) ⟨by simp, by simpa using h0, by simp, fun b hb => by simp at hb, by simpa using hs⟩
 refine ⟨e.2, e.1, ?_, e2, e3, e4⟩;unfold uF85a;simp only [bnd, e1, Option.bind_some]
theorem right_split (s : uT1) (p : List uT0) (k : Int) (hs : SOk s k) (hk : k ≤ 1000) (hp : SmallP p) (h0 : planE p = 0) : ∃ s' n, uF87 s p = some (s', n) ∧ SOk s' (k + 40) ∧ n.length ≤ 100 ∧ (splitE p n).2 = 0 := by
 have hl : (p.length : Int) = 3 := by have := hp.1; omega
 obtain ⟨i, e3, i1, i2⟩ := next_is s p.length k hs (by omega) (by omega) (by omega);have o2 := hs.one;obtain ⟨c, ec, hc⟩ := idx_of (l := p) i1 i2;obtain ⟨c1, c2, c3, c4, c5⟩ := hp.2 c hc;obtain ⟨j, e4, j1, j2⟩ := next_is ⟨s.L, s.at_ + 1⟩ c.Areas.length (k + 1) o2 (by omega) (by omega) (by omega);have o3 := o2.one;obtain ⟨a, ea, ha⟩ := idx_of (l := c.Areas) j1 j2;obtain ⟨a1, a2, a3, a4, a5⟩ := c5 a ha;obtain ⟨f1, f2, f3⟩ := area_facts h0 hc ha;have hs1 : sadd [43] c.Code = some (43 :: c.Code) := sadd_of (by simp; omega);have hs2 : sadd (43 :: c.Code) a.Prefix = some (43 :: c.Code ++ a.Prefix) := sadd_of (by simp; omega);unfold uF87;simp only [bnd, e3, ec, e4, ea, Option.bind_some, hs1, hs2];obtain ⟨t, r, e5, o4, r1, r2⟩ := range_w ⟨s.L, s.at_ + 1 + 1⟩ a.Low a.High _ o3 (by omega) (by omega) (by omega) (by omega);simp only [e5, Option.bind_some];rw [w64 (n := r - (a.Prefix.length : Int)) (by omega) (by omega)];obtain ⟨t', d, e7, o6, hd, hdg⟩ := row_digits (r - (a.Prefix.length : Int)) t _ (by omega) (by omega) o4 (by omega);have hs3 : sadd (43 :: c.Code ++ a.Prefix) d = some (43 :: (c.Code ++ (a.Prefix ++ d))) := by rw [sadd_of (by simp; omega)]; simp
 simp only [e7, hs3, Option.bind_some];exact ⟨_, _, rfl, o6.up (by omega), by simp; omega, by rw [split_ok h0 hc ha hdg (by omega) (by omega)]⟩
def chs : List UInt8 := [48, 49, 50, 51, 52, 53, 57]
theorem changed_is (s : uT1) (x : List UInt8) (k : Int) (hs : SOk s k) (hk : k ≤ 1000) (hx : x.length ≤ 500) : ∃ s' y, uF52 s x [48, 49, 50, 51, 52, 53, 57] = some (s', y) ∧ SOk s' (k + 3) ∧ y.length ≤ x.length + 7 := by
 unfold uF52;simp only [bnd];cases hxe : (x == []) with
 | true =>
  refine ⟨s, _, rfl, hs.up (by omega), by simp⟩
 | false =>
  have hx0 : 1 ≤ x.length := by
   cases x with
   | nil => simp at hxe
   | cons a x => simp
  obtain ⟨i, e1, i1, i2⟩ := next_is s x.length k hs (by omega) (by omega) (by omega);obtain ⟨j, e2, j1, j2⟩ := next_is ⟨s.L, s.at_ + 1⟩ 7 (k + 1) hs.one (by omega) (by omega) (by omega);obtain ⟨w, e3, w1, w2⟩ := next_is ⟨s.L, s.at_ + 1 + 1⟩ 3 (k + 1 + 1) hs.one.one (by omega) (by omega) (by omega);obtain ⟨b, eb, hb⟩ := idx_of (l := ([48, 49, 50, 51, 52, 53, 57] : List UInt8)) j1 j2;have hr : (runeStr (IntKind.wrap .i32 (b.toNat : Int))).length ≤ 7 := by
   simp only [List.mem_cons, List.not_mem_nil, or_false] at hb;rcases hb with rfl | rfl | rfl | rfl | rfl | rfl | rfl <;> decide +kernel
  obtain ⟨u, hu⟩ : ∃ u, runeStr (IntKind.wrap .i32 (b.toNat : Int)) = u := ⟨_, rfl⟩;rw [hu] at hr;have hz : (([48, 49, 50, 51, 52, 53, 57] : List UInt8) == []) = false := rfl;obtain ⟨n, rfl⟩ := Int.eq_ofNat_of_zero_le i1;have hn : n < x.length := by omega
  have q1 : sub x 0 (n : Int) = some (x.take n) := sub_take (by omega);have q2 : sub x (n : Int) (x.length : Int) = some (x.drop n) := sub_drop (by omega);have q3 : sub x (IntKind.wrap .i64 ((n : Int) + 1)) (x.length : Int) = some (x.drop (n + 1)) := by
   rw [w64 (by omega) (by omega), show ((n : Int) + 1) = ((n + 1 : Nat) : Int) from by omega];exact sub_drop (by omega)
  have t1 : (x.take n).length = n := by simp; omega
  have q4 : sadd (x.take n) u = some (x.take n ++ u) := sadd_of (by omega);have q5 : sadd (x.take n ++ u) (x.drop (n + 1)) = some (x.take n ++ u ++ x.drop (n + 1)) := sadd_of (by simp; omega);have q6 : sadd (x.take n ++ u) (x.drop n) = some (x.take n ++ u ++ x.drop n) := sadd_of (by simp; omega);have q7 : sadd (x.take n) (x.drop (n + 1)) = some (x.take n ++ x.drop (n + 1)) := sadd_of (by simp; omega);have e2' : uF63 ⟨s.L, s.at_ + 1⟩ ((([48, 49, 50, 51, 52, 53, 57] : List UInt8).length : Nat) : Int) = some (⟨s.L, s.at_ + 1 + 1⟩, j) := e2;have o3 := hs.one.one.one;simp only [hz, Bool.or_self, cond_false, e1, e2', eb, e3, hu, Option.bind_some, q1, q2, q3, q4, q5, q6, q7];cases w == 0
  ·simp only [cond_false]
   cases w == 1
   ·exact ⟨_, _, rfl, o3.up (by omega), by simp; omega⟩
   ·exact ⟨_, _, rfl, o3.up (by omega), by simp; omega⟩
  ·exact ⟨_, _, rfl, o3.up (by omega), by simp; omega⟩
theorem digits_is (s : uT1) (p : List uT0) (h : uT3) (k : Int) (hs : SOk s k) (hk : k ≤ 500) (hp : SmallP p) (hh : h.Area.length ≤ 10) : ∃ s' d, uF39 s p h = some (s', d) ∧ SOk s' (k + 60) ∧ d.length ≤ 100 := by
 have hg := hp.good;have hc : (bif (planE p == (0 : Int)) then ((uF34 p h).bind fun y20 => some (y20 == (0 : Int))) else (some false)) = some (faultE p h == 0) := by
  unfold faultE;by_cases hz : planE p = 0
  ·simp [hz, fault_home hg]
  ·have : (planE p == 0) = false := by simpa using hz
   simp only [this, cond_false, hz, if_false]
 unfold uF39;simp only [bnd, plan_fault hg, Option.bind_some, hc];have other : ∀ (s : uT1) (k' : Int), SOk s k' → k' ≤ 600 → ∃ s' d, ((uF86 (([49] : List UInt8)) ((30 : Int))).bind fun y142 => (uF86 (([49] : List UInt8)) ((31 : Int))).bind fun y145 => (uF51 s (([([] : List UInt8), ([48] : List UInt8), ([48, 48] : List UInt8), ([49] : List UInt8), ([48, 51, 48] : List UInt8), ([42, 49] : List UInt8), ([49, 50] : List UInt8), ([48, 51, 48, 49] : List UInt8), ([48, 48, 52, 57, 51, 48, 49, 50] : List UInt8), ([48, 49, 49] : List UInt8), ([49, 50, 48, 57] : List UInt8), y142, y145, ([48, 97] : List UInt8)] : List (List UInt8)))).bind fun y149 => some ((y149.1, y149.2))) = some (s', d) ∧ SOk s' (k' + 1) ∧ d.length ≤ 100 := by
  intro s k' hs hk;have r1 : uF86 [49] 30 = some (List.replicate 30 49) := by decide +kernel
  have r2 : uF86 [49] 31 = some (List.replicate 31 49) := by decide +kernel
  obtain ⟨d, e1, hd⟩ := some_in s [([] : List UInt8), ([48] : List UInt8), ([48, 48] : List UInt8), ([49] : List UInt8), ([48, 51, 48] : List UInt8), ([42, 49] : List UInt8), ([49, 50] : List UInt8), ([48, 51, 48, 49] : List UInt8), ([48, 48, 52, 57, 51, 48, 49, 50] : List UInt8), ([48, 49, 49] : List UInt8), ([49, 50, 48, 57] : List UInt8), List.replicate 30 49, List.replicate 31 49, ([48, 97] : List UInt8)] k' hs (by omega) (by simp) (by simp);simp only [r1, r2, Option.bind_some, e1];refine ⟨_, _, rfl, hs.one, ?_⟩;have : ∀ x ∈ [([] : List UInt8), ([48] : List UInt8), ([48, 48] : List UInt8), ([49] : List UInt8), ([48, 51, 48] : List UInt8), ([42, 49] : List UInt8), ([49, 50] : List UInt8), ([48, 51, 48, 49] : List UInt8), ([48, 48, 52, 57, 51, 48, 49, 50] : List UInt8), ([48, 49, 49] : List UInt8), ([49, 50, 48, 57] : List UInt8), List.replicate 30 49, List.replicate 31 49, ([48, 97] : List UInt8)], x.length ≤ 100 := by decide
  exact this d hd
 cases hf : faultE p h == 0 with
 | false =>
  obtain ⟨s', d, e1, e2, e3⟩ := other s k hs (by omega);exact ⟨s', d, e1, e2.up (by omega), e3⟩
 | true =>
  obtain ⟨b, eb⟩ := flip_is s 4 k hs (by omega) (by omega) (by omega);simp only [cond_true, eb, Option.bind_some];cases b with
  | true =>
   obtain ⟨s', d, e1, e2, e3⟩ := other _ _ hs.one (by omega);simp only [Bool.not_true, cond_false, e1];exact ⟨_, _, rfl, e2.up (by omega), e3⟩
  | false =>
   obtain ⟨h0, c, a, hr, hfind⟩ := open_ok (by simpa using hf);obtain ⟨s1, n, e1, o1, n1, n2⟩ := right_split ⟨s.L, s.at_ + 1⟩ p _ hs.one (by omega) hp h0;obtain ⟨r, e2, r1, r2, r3⟩ := ways_is hp h0 hr hfind hh n1 n2;obtain ⟨i, e3, i1, i2⟩ := next_is s1 r.length _ o1 (by omega) (by omega) (by omega);obtain ⟨x, ex, hx⟩ := idx_of (l := r) i1 i2;have hxl := r3 x hx;obtain ⟨j, e4, j1, j2⟩ := next_is ⟨s1.L, s1.at_ + 1⟩ 4 _ o1.one (by omega) (by omega) (by omega);have o3 := o1.one.one;simp only [Bool.not_false, cond_true, e1, e2, e3, ex, e4, Option.bind_some];cases j == 0 with
   | true =>
    obtain ⟨m, e5, m1, m2⟩ := range_is ⟨s1.L, s1.at_ + 1 + 1⟩ 0 x.length _ o3 (by omega) (by omega) (by omega) (by omega);obtain ⟨m, rfl⟩ := Int.eq_ofNat_of_zero_le m1;have hsb : sub x 0 (m : Int) = some (x.take m) := sub_take (by omega);simp only [cond_true, e5, Option.bind_some, hsb];exact ⟨_, _, rfl, o3.one.up (by omega), by simp; omega⟩
   | false =>
    simp only [cond_false];cases j == 1 with
    | true =>
     obtain ⟨t, y, e5, o5, hy⟩ := changed_is ⟨s1.L, s1.at_ + 1 + 1⟩ x _ o3 (by omega) (by omega);simp only [cond_true, e5, Option.bind_some];exact ⟨_, _, rfl, o5.up (by omega), by omega⟩
    | false => exact ⟨_, _, rfl, o3.up (by omega), by omega⟩
theorem or_is (a b : Int) : uF41a [a, b] = some (if a = 0 then b else a) := by
 have h := first_loop (step := fun s : Int => uF41 [a, b] s) [a, b] (fun i => (i : Int)) (fun x => if x = 0 then none else some x) () (fun i x hi => by
  have hlt := (List.getElem?_eq_some_iff.1 hi).1;simp only [List.length_cons, List.length_nil] at hlt;have hd : decide ((i : Int) < (([a, b] : List Int).length : Int)) = true := decide_eq_true (by simp; omega);simp only [uF41, hd, cond_true, idx_nat, hi, Option.bind_some, w64 (n := (i : Int) + 1) (by omega) (by omega)];by_cases hx : x = 0
  ·subst hx; simp
  ·have : (x != 0) = true := by simpa using hx
   simp [this, hx]) (by simp [uF41])
 have h1 : loopO (fun s : Int => uF41 [a, b] s) 0 = some (firstR ([a, b].findSome? (fun x => if x = 0 then none else some x)) ()) := h;unfold uF41a;rw [h1];by_cases ha : a = 0
 ·by_cases hb : b = 0
  ·simp [ha, hb, firstR, lret]
  ·simp [ha, hb, firstR, lret]
 ·simp [ha, firstR, lret]
theorem law_DiallingProgresses (l : List Int) (hl : l.length ≤ 4611686018427387904) : uF5 l = some true := by
 obtain ⟨s1, p, e1, o1, hp⟩ := countries_is ⟨l, 0⟩ 0 ⟨hl, by simp, by simp⟩ (by omega);obtain ⟨s2, h, e2, o2, hh⟩ := home_draw s1 _ o1 (by omega);obtain ⟨s3, d, e3, o3, hd⟩ := digits_is s2 p h _ o2 (by omega) hp hh;have hg := hp.good
 -- are the digits right?
 obtain ⟨bad, hbad⟩ : ∃ b, (!digB d 0 30) = b := ⟨_, rfl⟩;have hdig : (bif (!(d == [])) then ((uF43 d).bind fun y85 => some (y85 != (0 : Int))) else (some false)) = some bad := by
  rw [← hbad];unfold uF43;rw [dig_is d 1 30 (by omega)];cases d with
  | nil => rfl
  | cons x t =>
   have : digB (x :: t) 1 30 = digB (x :: t) 0 30 := by
    unfold digB;congr 2;exact decide_eq_decide.2 (by simp; omega)
   rw [this];cases digB (x :: t) 0 30 <;> rfl
 have hwhen : uF42 bad 3 = some (if bad = true then 3 else 0) := by cases bad <;> rfl
 obtain ⟨F, hF⟩ : ∃ F, (if planE p = 0 then (if (homeR p h).2.2 = 0 then (if bad = true then (3 : Int) else 0) else (homeR p h).2.2) else planE p) = F := ⟨_, rfl⟩;have hfault : (bif planE p == 0 then ((uF34 p h).bind fun y71 => (bif (!(d == [])) then ((uF43 d).bind fun y85 => some (y85 != (0 : Int))) else (some false)).bind fun y88 => (uF42 y88 3).bind fun y100 => (uF41a [y71, y100]).bind fun y104 => some y104) else some (planE p)) = some F := by
  rw [← hF];by_cases hz : planE p = 0
  ·simp only [hz, beq_self_eq_true, cond_true, fault_home hg, Option.bind_some, hdig, hwhen, or_is, if_true]
  ·have : (planE p == 0) = false := by simpa using hz
   simp only [this, cond_false, hz, if_false]
 unfold uF5;simp only [e1, e2, e3, Option.bind_some, plan_fault hg, hfault];by_cases hf : faultE p h = 0
 ·obtain ⟨h0, c, a, hr, hfind⟩ := open_ok hf
  have hcp := List.mem_of_find?_eq_some hfind;have hcl := (hp.2 c hcp).1;have hop : uF90 p h = some (c, a, 0) := by rw [open_is hg, if_pos h0, hr]
  have hF2 : F = if bad = true then 3 else 0 := by rw [← hF, if_pos h0, hr]; rfl
  cases hb : bad with
  | true =>
   have hF3 : F = 3 := by rw [hF2, hb]; rfl
   have hpr : uF40 p h d = some (0, 3) := by
    simp only [uF40, hop, Option.bind_some, bne_self_eq_false, cond_false, dig_is' d 0 30 (by omega), hbad, hb, cond_true]
   simp only [hpr, Option.bind_some, hF3];rfl
  | false =>
   have hF3 : F = 0 := by rw [hF2, hb]; rfl
   have hdg : digB d 0 30 = true := by rw [hb] at hbad; simpa using hbad
   have ha : a.Prefix.length ≤ 10 ∧ -2000000000000 ≤ a.Low ∧ a.Low ≤ 2000000000000 ∧ -2000000000000 ≤ a.High ∧ a.High ≤ 2000000000000 := by
    simp only [homeR, hfind] at hr;split at hr
    ·have : noA = a := by simpa using hr
     subst this;simp [noA]
    ·cases hg2 : c.Areas.find? (fun a => a.Prefix == h.Area) with
     | none => rw [hg2] at hr; simp at hr
     | some a0 =>
      rw [hg2] at hr;obtain rfl : a0 = a := by simpa using hr
      exact (hp.2 c hcp).2.2.2.2 a0 (List.mem_of_find?_eq_some hg2)
   have hpr : uF40 p h d = some ((bif ((reachE p c h d).2 == 0) && refB p c h d then 2 else bif (reachE p c h d).2 == 0 then 3 else bif refB p c h d then 1 else 0), 0) := by
    simp only [uF40, hop, Option.bind_some, bne_self_eq_false, cond_false, dig_is' d 0 30 (by omega), hdg, Bool.not_true, reach_is hg (show c.Code.length ≤ 100 by omega) h (by omega) d (by omega), longer_is hp hcp hd ha, long_ref h0 hcp (dg_of hdg) hr hfind, bnd];cases (reachE p c h d).2 == 0 <;> cases refB p c h d <;> rfl
   simp only [hpr, Option.bind_some, hF3, bne_self_eq_false, cond_false, beq_self_eq_true, cond_true, progress_ref hp h0 hfind hh hd, uF35]
 ·obtain ⟨c, a, hop⟩ := open_bad hg hf
  have hne : (faultE p h != 0) = true := by simpa using hf
  have hF2 : F = faultE p h := by
   rw [← hF];unfold faultE at hf ⊢;split
   ·rename_i hz
    rw [if_pos hz] at hf;rw [if_neg hf]
   ·rfl
  have hpr : uF40 p h d = some (0, faultE p h) := by
   simp only [uF40, hop, Option.bind_some, hne, cond_true]
  simp only [hpr, Option.bind_some, hF2, hne, cond_true, beq_self_eq_true, Bool.and_self, uF35]
end Go.Proofs.YtoclmbbfdokbhaaGreatDoor
