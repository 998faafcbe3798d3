/-
  Plans: what is drawn.
-/
import Derived.Test.YtoclmbbfdokbhaaGreatDoorHM4Aa
import Derived.Test.YtoclmbbfdokbhaaGreatDoorHM4Absc
namespace Go.Proofs.YtoclmbbfdokbhaaGreatDoor
open Go Go.Abs
set_option maxRecDepth 100000
set_option maxHeartbeats 1000000
theorem below_is (x n : Int) (h1 : 1 ≤ n) (h2 : n ≤ 4611686018427387904) : uF128 x n = some (x % n) := by
 have hn : ¬ n < 1 := by omega
 have hn0 : n ≠ 0 := by omega
 have hlt : x.tmod n < n := Int.tmod_lt_of_pos _ (by omega);have hgt : -n < x.tmod n := by
  have := Int.tmod_lt_of_pos (-x) (b := n) (by omega)
  rw [Int.neg_tmod] at this; omega
 rw [emod_tmod x n h1];by_cases h : x.tmod n < 0
 ·simp (disch := omega) [uF128, hn, grem, hn0, h, bnd, w64]
 ·simp [uF128, hn, grem, hn0, h, bnd]
def SOk (s : uT0) (k : Int) : Prop := s.L.length ≤ 4611686018427387904 ∧ 0 ≤ s.at_ ∧ s.at_ ≤ k
theorem next_is (s : uT0) (n k : Int) (hs : SOk s k) (hk : k ≤ 4611686018427387904) (h1 : 1 ≤ n) (h2 : n ≤ 4611686018427387904) :
  ∃ r, uF63 s n = some (⟨s.L, s.at_ + 1⟩, r) ∧ 0 ≤ r ∧ r < n := by
 obtain ⟨hl, ha, hb⟩ := hs;have e1 : IntKind.wrap .i64 (s.at_ + 1) = s.at_ + 1 := w64 (by omega) (by omega);have hm : ∀ x : Int, 0 ≤ x % n ∧ x % n < n := fun x => ⟨Int.emod_nonneg _ (by omega), Int.emod_lt_of_pos _ (by omega)⟩;unfold uF63;rw [e1];by_cases h0 : s.L.length = 0
 ·have hz : (s.L.length : Int) = 0 := by omega
  simp [hz, below_is _ _ h1 h2];exact hm _
 ·have hz : ¬ ((s.L.length : Int) = 0) := by omega
  have e2 : IntKind.wrap .i64 (s.at_ + 1 - 1) = s.at_ := by rw [w64] <;> omega
  have hi : 0 ≤ s.at_.tmod s.L.length ∧ s.at_.tmod s.L.length < s.L.length := ⟨Int.tmod_nonneg _ ha, Int.tmod_lt_of_pos _ (by omega)⟩;obtain ⟨x, hx, _⟩ := idx_of hi.1 hi.2;rw [e2];have hne : s.L ≠ [] := by rintro q; simp [q] at h0
  have hb : ((s.L.length : Int) == 0) = false := by simp [hne]
  simp [hb, hne, grem, gquo, hx, below_is _ _ h1 h2, below_is _ 1073741824 (by omega) (by omega)];exact hm _
theorem range_is (s : uT0) (lo hi k : Int) (hs : SOk s k) (hk : k ≤ 4611686018427387904) (h1 : lo ≤ hi) (h2 : -1000000000000 ≤ lo) (h3 : hi ≤ 1000000000000) :
  ∃ r, uF61 s lo hi = some (⟨s.L, s.at_ + 1⟩, r) ∧ lo ≤ r ∧ r ≤ hi := by
 obtain ⟨r, e, r1, r2⟩ := next_is s (hi - lo + 1) k hs hk (by omega) (by omega);have hlt : ¬ hi < lo := by omega
 refine ⟨lo + r, ?_, by omega, by omega⟩;simp (disch := omega) [uF61, hlt, w64, e, bnd]

theorem SOk.up {s : uT0} {k m : Int} (h : SOk s k) (e : k ≤ m) : SOk s m := ⟨h.1, h.2.1, Int.le_trans h.2.2 e⟩
theorem SOk.one {s : uT0} {k : Int} (h : SOk s k) : SOk ⟨s.L, s.at_ + 1⟩ (k + 1) := by
 obtain ⟨a, b, c⟩ := h;exact ⟨a, by (try simp only []); omega, by (try simp only []); omega⟩
theorem pick_in (s : uT0) (l : List Int) (k : Int) (hs : SOk s k) (hk : k ≤ 1000000) (hl : 0 < l.length) (hl2 : l.length ≤ 1000) : ∃ r, uF58 s l = some (⟨s.L, s.at_ + 1⟩, r) ∧ r ∈ l := by
 obtain ⟨r, e, r1, r2⟩ := next_is s l.length k hs (by omega) (by omega) (by omega);obtain ⟨x, hx, hm⟩ := idx_of r1 r2;exact ⟨x, by simp [uF58, e, hx], hm⟩
theorem flip_is (s : uT0) (n k : Int) (hs : SOk s k) (hk : k ≤ 1000000) (h1 : 1 ≤ n) (h2 : n ≤ 1000) : ∃ b, uF53 s n = some (⟨s.L, s.at_ + 1⟩, b) := by
 obtain ⟨r, e, r1, r2⟩ := next_is s n k hs (by omega) (by omega) (by omega);exact ⟨r == 0, by simp [uF53, e, bnd]⟩
def hpB (x y : List UInt8) : Bool := decide (y.length ≤ x.length) && (x.take y.length == y)
theorem hp_is (x y : List UInt8) : uF96 x y = some (hpB x y) := by
 unfold uF96 uF161 hpB;by_cases h : y.length ≤ x.length
 ·have h1 : decide ((x.length : Int) ≥ (y.length : Int)) = true := decide_eq_true (by omega)
  have h2 : sub x 0 (y.length : Int) = some (x.take y.length) := by
   unfold sub;rw [if_pos (by omega)]; simp
  simp only [h1, h2, h, cond_true, Option.bind_some, decide_true, Bool.true_and]
 ·have h1 : decide ((x.length : Int) ≥ (y.length : Int)) = false := decide_eq_false (by omega)
  simp only [h1, h, cond_false, Option.bind_some, decide_false, Bool.false_and]
theorem cut_is (x y : List UInt8) : uF102 x y = some (if hpB x y = true then (x.drop y.length, true) else (x, false)) := by
 have h := hp_is x y;unfold uF96 at h;obtain ⟨b, hb, h'⟩ := obind h;have h' := Option.some.inj h';subst h';unfold uF102 uF165;simp only [bnd, hb, Option.bind_some];cases hq : hpB x y with
 | false => simp
 | true =>
  have hl : y.length ≤ x.length := by simp [hpB] at hq; exact hq.1
  have h2 : sub x (y.length : Int) (x.length : Int) = some (x.drop y.length) := by
   unfold sub;rw [if_pos (by omega)]; simp
  simp [h2]
def digs : List UInt8 := [48, 49, 50, 51, 52, 53, 54, 55, 56, 57]
def digB (x : List UInt8) (lo hi : Int) : Bool := (decide (lo ≤ (x.length : Int)) && decide ((x.length : Int) ≤ hi)) && (Lib.trimS x digs == [])
theorem trim_is (x : List UInt8) (h : x.length ≤ 1000000) : uF160 x digs = some (Lib.trimS x digs) := by
 have hk : trimOk x digs = true := by
  unfold trimOk digs;have : x.length ≤ 9223372036854775807 := by omega
  simp [this]
 simp [uF160, hk]
theorem dig_is (x : List UInt8) (lo hi : Int) (h : x.length ≤ 1000000) : uF94 x lo hi = some (digB x lo hi) := by
 unfold uF94 uF103 digB;rw [show ([48, 49, 50, 51, 52, 53, 54, 55, 56, 57] : List UInt8) = digs from rfl, trim_is x h];simp only [bnd, Option.bind_some];cases (decide (lo ≤ (x.length : Int)) && decide ((x.length : Int) ≤ hi)) <;> rfl
theorem dig_is' (x : List UInt8) (lo hi : Int) (h : x.length ≤ 1000000) : uF105 x lo hi = some (digB x lo hi) := by
 unfold uF105 uF166 digB;rw [show ([48, 49, 50, 51, 52, 53, 54, 55, 56, 57] : List UInt8) = digs from rfl, trim_is x h];simp only [bnd, Option.bind_some, ge_iff_le];cases (decide (lo ≤ (x.length : Int)) && decide ((x.length : Int) ≤ hi)) <;> rfl

def GoodA (a : uT2) : Prop := a.Prefix.length ≤ 100000 ∧ -4611686018427387904 ≤ a.Low ∧ a.Low ≤ 4611686018427387904 ∧ -4611686018427387904 ≤ a.High ∧ a.High ≤ 4611686018427387904
def GoodC (c : uT1) : Prop := c.Code.length ≤ 100000 ∧ c.Abroad.length ≤ 100000 ∧ c.Trunk.length ≤ 100000 ∧ c.Areas.length ≤ 100000 ∧ ∀ a ∈ c.Areas, GoodA a

def errL {α : Type} (f : Nat → α → Int) : Nat → List α → Int
  | _, [] => 0
  | i, a :: l => if f i a = 0 then errL f (i + 1) l else f i a
theorem err_loop {α : Type} {step : Int → Option (Int ⊕ (Unit ⊕ Int))} (l : List α) (f : Nat → α → Int)
  (h : ∀ (i : Nat) (a : α), l[i]? = some a → step (i : Int) = some (if f i a = 0 then .inl ((i + 1 : Nat) : Int) else .inr (.inr (f i a)))) (hend : step (l.length : Int) = some (.inr (.inl ()))) :
  loopO step 0 = some (if errL f 0 l = 0 then .inl () else .inr (errL f 0 l)) := by
 have key : ∀ (m : List α) (i : Nat), foldE (fun i a (_ : Unit) => some (if f i a = 0 then (.inl () : Unit ⊕ (Unit ⊕ Int)) else .inr (.inr (f i a)))) (fun _ => (.inl () : Unit ⊕ Int)) i m () = some (if errL f i m = 0 then .inl () else .inr (errL f i m)) := by
  intro m;induction m with
  | nil => intro i; rfl
  | cons a m ih =>
   intro i;by_cases e : f i a = 0
   ·simp only [foldE, e, if_true, errL]; exact ih (i + 1)
   ·simp only [foldE, e, if_false, errL]
 have := loop_list (step := step) l (fun i (_ : Unit) => (i : Int)) (fun i a _ => some (if f i a = 0 then (.inl () : Unit ⊕ (Unit ⊕ Int)) else .inr (.inr (f i a)))) (fun _ => .inl ()) (fun i a s hi => by
  rw [h i a hi];by_cases e : f i a = 0 <;> simp [e]) (fun s => hend) ()
 rw [← key l 0]; exact this
theorem errL_zero {α : Type} {f : Nat → α → Int} : ∀ {l : List α} {i : Nat}, errL f i l = 0 → ∀ k a, l[k]? = some a → f (i + k) a = 0
 | [], _, _, k, a, hk => by simp at hk
 | b :: l, i, h, k, a, hk => by
  by_cases e : f i b = 0
  ·simp only [errL, e, if_true] at h
   cases k with
   | zero => simp at hk; subst hk; exact e
   | succ k =>
    have := errL_zero h k a (by simpa using hk)
    rwa [show i + 1 + k = i + (k + 1) from by omega] at this
  ·simp only [errL, e, if_false] at h

def areaE (c : uT1) (k : Nat) (a : uT2) : Int :=
  let p : uT2 := c.Areas[k - 1]?.getD a
  bif !digB a.Prefix 1 8 then 3
  else bif decide (0 < k) && (Op.bytesLess a.Prefix p.Prefix || a.Prefix == p.Prefix) then 7
  else bif (decide (0 < k) && hpB a.Prefix p.Prefix) || (hpB (c.Trunk ++ a.Prefix) c.Abroad || hpB c.Abroad (c.Trunk ++ a.Prefix)) then 13
  else bif ((decide (a.Low ≤ (a.Prefix.length : Int)) || decide (a.Low > a.High)) || decide (a.High > 15 - (c.Code.length : Int))) || decide (a.Low < 4 - (c.Code.length : Int)) then 1 else 0
theorem sadd_of {x y : List UInt8} (h : x.length + y.length ≤ 4611686018427387904) : sadd x y = some (x ++ y) := by simp [sadd, h]
theorem prev_at {α : Type} {l : List α} {k : Nat} {a b : α} (hk : l[k]? = some a) (h0 : 0 < k) (hl : l.length ≤ 100000) : idx l (IntKind.wrap .i64 ((k : Int) - 1)) = some (l[k - 1]?.getD b) := by
 have hlt := (List.getElem?_eq_some_iff.1 hk).1;rw [w64 (by omega) (by omega), show ((k : Int) - 1) = ((k - 1 : Nat) : Int) from by omega, idx_at (by omega)];simp [show k - 1 < l.length from by omega]
theorem area_is {c : uT1} {k : Nat} {a : uT2} (hc : GoodC c) (hk : c.Areas[k]? = some a) : uF193 c (k : Int) = some (areaE c k a) := by
 obtain ⟨h1, h2, h3, h4, h5⟩ := hc;obtain ⟨g1, g2, g3, g4, g5⟩ := h5 a (List.mem_of_getElem? hk);have ws : sadd c.Trunk a.Prefix = some (c.Trunk ++ a.Prefix) := sadd_of (by omega);have w1 : IntKind.wrap .i64 (15 - (c.Code.length : Int)) = 15 - (c.Code.length : Int) := w64 (by omega) (by omega);have w2 : IntKind.wrap .i64 (4 - (c.Code.length : Int)) = 4 - (c.Code.length : Int) := w64 (by omega) (by omega);unfold uF193 areaE;simp only [idx_nat, hk, Option.bind_some, ws, dig_is' a.Prefix 1 8 (by omega), hp_is, bnd, w1, w2];cases digB a.Prefix 1 8
 ·rfl
 ·simp only [Bool.not_true, cond_false]
  by_cases h0 : 0 < k
  ·have hd : decide ((k : Int) > 0) = true := decide_eq_true (by omega)
   simp only [hd, cond_true, prev_at (b := a) hk h0 h4, Option.bind_some, decide_eq_true h0, Bool.true_and];cases (Op.bytesLess a.Prefix (c.Areas[k - 1]?.getD a).Prefix || a.Prefix == (c.Areas[k - 1]?.getD a).Prefix)
   ·simp only [cond_false]
    cases hpB a.Prefix (c.Areas[k - 1]?.getD a).Prefix
    ·simp only [cond_false, Bool.false_or]
     cases hpB (c.Trunk ++ a.Prefix) c.Abroad
     ·simp only [cond_false, Bool.false_or, Option.bind_some]
      cases hpB c.Abroad (c.Trunk ++ a.Prefix) <;> simp only [cond_false, cond_true, Option.bind_some] <;> (try rfl) <;> cases ((decide (a.Low ≤ (a.Prefix.length : Int)) || decide (a.Low > a.High)) || decide (a.High > 15 - (c.Code.length : Int))) || decide (a.Low < 4 - (c.Code.length : Int)) <;> rfl
     ·simp only [cond_true, Bool.true_or, Option.bind_some]
    ·simp only [cond_true, Bool.true_or, Option.bind_some]
   ·simp only [cond_true]
  ·have hd : decide ((k : Int) > 0) = false := decide_eq_false (by omega)
   simp only [hd, cond_false, Option.bind_some, decide_eq_false h0, Bool.false_and, Bool.false_or];cases hpB (c.Trunk ++ a.Prefix) c.Abroad
   ·simp only [cond_false, Bool.false_or, Option.bind_some]
    cases hpB c.Abroad (c.Trunk ++ a.Prefix) <;> simp only [cond_false, cond_true, Option.bind_some] <;> (try rfl) <;> cases ((decide (a.Low ≤ (a.Prefix.length : Int)) || decide (a.Low > a.High)) || decide (a.High > 15 - (c.Code.length : Int))) || decide (a.Low < 4 - (c.Code.length : Int)) <;> rfl
   ·simp only [cond_true, Bool.true_or, Option.bind_some]
theorem c1_is {c : uT1} {k : Nat} {a : uT2} (hc : GoodC c) (hk : c.Areas[k]? = some a) : uF154 c (k : Int) = some (if areaE c k a = 0 then .inl ((k + 1 : Nat) : Int) else .inr (.inr (areaE c k a))) := by
 have hlt := (List.getElem?_eq_some_iff.1 hk).1;have h4 := hc.2.2.2.1;have hd : decide ((k : Int) < (c.Areas.length : Int)) = true := decide_eq_true (by omega);unfold uF154;simp only [hd, cond_true, area_is hc hk, Option.bind_some, w64 (n := (k : Int) + 1) (by omega) (by omega)];by_cases e : areaE c k a = 0
 ·simp [e]
 ·have : (areaE c k a != 0) = true := by simpa using e
  simp only [this, cond_true, e, if_false]
theorem f1_is {c : uT1} {k : Nat} {a : uT2} (hc : GoodC c) (hk : c.Areas[k]? = some a) : uF33 c (k : Int) = some (if areaE c k a = 0 then .inl ((k + 1 : Nat) : Int) else .inr (.inr (areaE c k a))) := by
 have hlt := (List.getElem?_eq_some_iff.1 hk).1;obtain ⟨h1, h2, h3, h4, h5⟩ := hc;obtain ⟨g1, g2, g3, g4, g5⟩ := h5 a (List.mem_of_getElem? hk);have hd : decide ((k : Int) < (c.Areas.length : Int)) = true := decide_eq_true (by omega);have ws : sadd c.Trunk a.Prefix = some (c.Trunk ++ a.Prefix) := sadd_of (by omega);have w1 : IntKind.wrap .i64 (a.High + (c.Code.length : Int)) = a.High + (c.Code.length : Int) := w64 (by omega) (by omega);have w2 : IntKind.wrap .i64 (a.Low + (c.Code.length : Int)) = a.Low + (c.Code.length : Int) := w64 (by omega) (by omega);have d1 : decide (a.High + (c.Code.length : Int) > 15) = decide (a.High > 15 - (c.Code.length : Int)) := decide_eq_decide.2 (by omega);have d2 : decide (a.Low + (c.Code.length : Int) < 4) = decide (a.Low < 4 - (c.Code.length : Int)) := decide_eq_decide.2 (by omega);unfold uF33 areaE;simp only [hd, cond_true, idx_nat, hk, Option.bind_some, ws, dig_is a.Prefix 1 8 (by omega), hp_is, bnd, w1, w2, d1, d2, w64 (n := (k : Int) + 1) (by omega) (by omega)];cases digB a.Prefix 1 8
 ·rfl
 ·simp only [Bool.not_true, cond_false]
  by_cases h0 : 0 < k
  ·have hd : decide ((k : Int) > 0) = true := decide_eq_true (by omega)
   simp only [hd, cond_true, prev_at (b := a) hk h0 h4, Option.bind_some, decide_eq_true h0, Bool.true_and];cases (Op.bytesLess a.Prefix (c.Areas[k - 1]?.getD a).Prefix || a.Prefix == (c.Areas[k - 1]?.getD a).Prefix)
   ·simp only [cond_false]
    cases hpB a.Prefix (c.Areas[k - 1]?.getD a).Prefix
    ·simp only [cond_false, Bool.false_or]
     cases hpB (c.Trunk ++ a.Prefix) c.Abroad
     ·simp only [cond_false, Bool.false_or, Option.bind_some]
      cases hpB c.Abroad (c.Trunk ++ a.Prefix) <;> simp only [cond_false, cond_true, Option.bind_some] <;> (try rfl) <;> cases ((decide (a.Low ≤ (a.Prefix.length : Int)) || decide (a.Low > a.High)) || decide (a.High > 15 - (c.Code.length : Int))) || decide (a.Low < 4 - (c.Code.length : Int)) <;> rfl
     ·rfl
    ·rfl
   ·rfl
  ·have hd : decide ((k : Int) > 0) = false := decide_eq_false (by omega)
   simp only [hd, cond_false, Option.bind_some, decide_eq_false h0, Bool.false_and, Bool.false_or];cases hpB (c.Trunk ++ a.Prefix) c.Abroad
   ·simp only [cond_false, Bool.false_or, Option.bind_some]
    cases hpB c.Abroad (c.Trunk ++ a.Prefix) <;> simp only [cond_false, cond_true, Option.bind_some] <;> (try rfl) <;> cases ((decide (a.Low ≤ (a.Prefix.length : Int)) || decide (a.Low > a.High)) || decide (a.High > 15 - (c.Code.length : Int))) || decide (a.Low < 4 - (c.Code.length : Int)) <;> rfl
   ·rfl
theorem areas_end {c : uT1} : uF154 c (c.Areas.length : Int) = some (.inr (.inl ())) ∧ uF33 c (c.Areas.length : Int) = some (.inr (.inl ())) := by
 constructor
 ·simp [uF154]
 ·simp [uF33]
theorem c1_loop {c : uT1} (hc : GoodC c) : loopO (fun s : Int => uF154 c s) 0 = some (if errL (areaE c) 0 c.Areas = 0 then .inl () else .inr (errL (areaE c) 0 c.Areas)) :=
 err_loop c.Areas (areaE c) (fun _ _ h => c1_is hc h) areas_end.1
theorem f1_loop {c : uT1} (hc : GoodC c) : loopO (fun s : Int => uF33 c s) 0 = some (if errL (areaE c) 0 c.Areas = 0 then .inl () else .inr (errL (areaE c) 0 c.Areas)) :=
 err_loop c.Areas (areaE c) (fun _ _ h => f1_is hc h) areas_end.2
def countryE (p : List uT1) (k : Nat) (c : uT1) : Int :=
  let o : uT1 := p[k - 1]?.getD c
  bif !digB c.Code 1 3 || (((c.Code[0]?.getD 0).toNat : Int) == 48) then 3
  else bif decide (0 < k) && (Op.bytesLess c.Code o.Code || c.Code == o.Code) then 7
  else bif (p.take k).any (fun o => hpB c.Code o.Code) then 13
  else bif (!digB c.Abroad 1 4 || !digB c.Trunk 0 2) || hpB c.Trunk c.Abroad then 3
  else bif decide ((c.Areas.length : Int) > 300) then 2 else errL (areaE c) 0 c.Areas
def planE (p : List uT1) : Int := if (p.length : Int) > 100 then 2 else errL (countryE p) 0 p
def GoodP (p : List uT1) : Prop := p.length ≤ 100000 ∧ ∀ c ∈ p, GoodC c
theorem dig_ne {x : List UInt8} {hi : Int} (h : digB x 1 hi = true) : idx x 0 = some (x[0]?.getD 0) := by
 have h1 : 1 ≤ (x.length : Int) := by
  simp only [digB, Bool.and_eq_true, decide_eq_true_eq] at h; exact h.1.1
 cases x with
 | nil => simp at h1
 | cons a x => rfl
theorem any_is (l : List uT1) (g : uT1 → Option Bool) (q : uT1 → Bool) (hg : ∀ a ∈ l, g a = some (q a)) (hl : l.length ≤ 100000) : uF83 l g = some (l.any q) := by
 have h : uF148 l g = some (idxI q l) := idxF_loop l g q hg (by omega);unfold uF83;simp only [h, Option.bind_some, bnd, idxI_any]
theorem sub_take {α : Type} {l : List α} {k : Nat} (h : k ≤ l.length) : sub l 0 (k : Int) = some (l.take k) := by
 unfold sub;rw [if_pos (by omega)]; simp
theorem conf_loop {c : uT1} (l : List uT1) (hl : l.length ≤ 100000) : loopO (fun s : Int => uF192 c l s) 0 = some (if l.any (fun o => hpB c.Code o.Code) = true then .inr 13 else .inl ()) := by
 have h := err_loop (step := fun s : Int => uF192 c l s) l (fun _ o => if hpB c.Code o.Code = true then 13 else 0) (fun i a hi => by
  have hlt := (List.getElem?_eq_some_iff.1 hi).1;have hd : decide ((i : Int) < (l.length : Int)) = true := decide_eq_true (by omega);simp only [uF192, hd, cond_true, idx_nat, hi, Option.bind_some, hp_is, w64 (n := (i : Int) + 1) (by omega) (by omega)];cases hpB c.Code a.Code <;> simp) (by simp [uF192])
 rw [h];have key : ∀ (l : List uT1) (i : Nat), errL (fun _ (o : uT1) => if hpB c.Code o.Code = true then (13 : Int) else 0) i l = if l.any (fun o => hpB c.Code o.Code) = true then 13 else 0 := by
  intro l;induction l with
  | nil => intro i; rfl
  | cons a l ih =>
   intro i;simp only [errL, List.any_cons];by_cases hb : hpB c.Code a.Code = true
   ·simp [hb]
   ·have hb' : hpB c.Code a.Code = false := by simpa using hb
    simp only [hb', Bool.false_eq_true, if_false, if_true, Bool.false_or]; exact ih (i + 1)
 rw [key];cases l.any (fun o => hpB c.Code o.Code) <;> simp

theorem country_is {p : List uT1} {k : Nat} {c : uT1} (hp : GoodP p) (hk : p[k]? = some c) :
  uF154a p (k : Int) = some (if countryE p k c = 0 then .inl ((k + 1 : Nat) : Int) else .inr (.inr (countryE p k c))) := by
 have hlt := (List.getElem?_eq_some_iff.1 hk).1;obtain ⟨hl, hg⟩ := hp;have hc := hg c (List.mem_of_getElem? hk);obtain ⟨h1, h2, h3, h4, h5⟩ := hc;have hd : decide ((k : Int) < (p.length : Int)) = true := decide_eq_true (by omega);have w1 := w64 (n := (k : Int) + 1) (by omega) (by omega);have key : ∃ e, uF192a p (k : Int) = some e ∧ countryE p k c = (if e = 0 then errL (areaE c) 0 c.Areas else e) := by
  unfold uF192a countryE;simp only [idx_nat, hk, Option.bind_some, dig_is' c.Code 1 3 (by omega), dig_is' c.Abroad 1 4 (by omega), dig_is' c.Trunk 0 2 (by omega), bnd, sub_take (Nat.le_of_lt hlt), conf_loop (c := c) (p.take k) (by simp; omega), hp_is];cases hq : digB c.Code 1 3
  ·exact ⟨3, rfl, rfl⟩
  ·simp only [Bool.not_true, cond_false, dig_ne hq, Option.bind_some, Bool.false_or]
   cases (((c.Code[0]?.getD 0).toNat : Int) == 48)
   ·simp only [cond_false]
    have ho : (bif decide ((k : Int) > 0) then ((idx p (IntKind.wrap .i64 ((k : Int) - 1))).bind fun y44 => some (Op.bytesLess c.Code y44.Code || c.Code == y44.Code)) else some false) = some (decide (0 < k) && (Op.bytesLess c.Code (p[k - 1]?.getD c).Code || c.Code == (p[k - 1]?.getD c).Code)) := by
     by_cases h0 : 0 < k
     ·simp only [decide_eq_true (show (k : Int) > 0 from by omega), cond_true, prev_at (b := c) hk h0 hl, Option.bind_some, decide_eq_true h0, Bool.true_and]
     ·simp only [decide_eq_false (show ¬ (k : Int) > 0 from by omega), cond_false, decide_eq_false h0, Bool.false_and]
    simp only [ho, Option.bind_some];cases (decide (0 < k) && (Op.bytesLess c.Code (p[k - 1]?.getD c).Code || c.Code == (p[k - 1]?.getD c).Code))
    ·simp only [cond_false]
     cases (p.take k).any (fun o => hpB c.Code o.Code)
     ·simp only [Bool.false_eq_true, if_false, lret, cond_false]
      cases digB c.Abroad 1 4
      ·exact ⟨3, rfl, rfl⟩
      ·cases digB c.Trunk 0 2
       ·exact ⟨3, rfl, rfl⟩
       ·simp only [Bool.not_true, cond_false, Option.bind_some, Bool.false_or]
        cases hpB c.Trunk c.Abroad
        ·simp only [cond_false]
         cases decide ((c.Areas.length : Int) > 300)
         ·exact ⟨0, rfl, rfl⟩
         ·exact ⟨2, rfl, rfl⟩
        ·exact ⟨3, rfl, rfl⟩
     ·exact ⟨13, rfl, rfl⟩
    ·exact ⟨7, rfl, rfl⟩
   ·exact ⟨3, rfl, rfl⟩
 obtain ⟨e, e1, e2⟩ := key;unfold uF154a;simp only [hd, cond_true, idx_nat, hk, Option.bind_some, e1, c1_loop ⟨h1, h2, h3, h4, h5⟩, w1, e2];by_cases he : e = 0
 ·subst he
  simp only [bne_self_eq_false, cond_false, if_true];by_cases ha : errL (areaE c) 0 c.Areas = 0 <;> simp [ha, lret]
 ·have : (e != 0) = true := by simpa using he
  simp only [this, cond_true, he, if_false]
theorem fault_is {p : List uT1} {k : Nat} {c : uT1} (hp : GoodP p) (hk : p[k]? = some c) :
  uF33b p (k : Int) = some (if countryE p k c = 0 then .inl ((k + 1 : Nat) : Int) else .inr (.inr (countryE p k c))) := by
 have hlt := (List.getElem?_eq_some_iff.1 hk).1;obtain ⟨hl, hg⟩ := hp;have hc := hg c (List.mem_of_getElem? hk);obtain ⟨h1, h2, h3, h4, h5⟩ := hc;have hd : decide ((k : Int) < (p.length : Int)) = true := decide_eq_true (by omega);have w1 := w64 (n := (k : Int) + 1) (by omega) (by omega);have hany : uF83 (p.take k) (fun a0 => uF95 a0 c) = some ((p.take k).any (fun o => hpB c.Code o.Code)) :=
  any_is _ _ _ (fun a _ => by simp [uF95, hp_is]) (by simp; omega)
 unfold uF33b countryE;simp only [hd, cond_true, idx_nat, hk, Option.bind_some, dig_is c.Code 1 3 (by omega), dig_is c.Abroad 1 4 (by omega), dig_is c.Trunk 0 2 (by omega), bnd, sub_take (Nat.le_of_lt hlt), hany, hp_is, f1_loop ⟨h1, h2, h3, h4, h5⟩, w1];cases hq : digB c.Code 1 3
 ·rfl
 ·simp only [Bool.not_true, cond_false, dig_ne hq, Option.bind_some, Bool.false_or]
  cases (((c.Code[0]?.getD 0).toNat : Int) == 48)
  ·simp only [cond_false]
   have ho : (bif decide ((k : Int) > 0) then ((idx p (IntKind.wrap .i64 ((k : Int) - 1))).bind fun y44 => some (Op.bytesLess c.Code y44.Code || c.Code == y44.Code)) else some false) = some (decide (0 < k) && (Op.bytesLess c.Code (p[k - 1]?.getD c).Code || c.Code == (p[k - 1]?.getD c).Code)) := by
    by_cases h0 : 0 < k
    ·simp only [decide_eq_true (show (k : Int) > 0 from by omega), cond_true, prev_at (b := c) hk h0 hl, Option.bind_some, decide_eq_true h0, Bool.true_and]
    ·simp only [decide_eq_false (show ¬ (k : Int) > 0 from by omega), cond_false, decide_eq_false h0, Bool.false_and]
   simp only [ho, Option.bind_some];cases (decide (0 < k) && (Op.bytesLess c.Code (p[k - 1]?.getD c).Code || c.Code == (p[k - 1]?.getD c).Code))
   ·simp only [cond_false]
    cases (p.take k).any (fun o => hpB c.Code o.Code)
    ·simp only [cond_false]
     cases digB c.Abroad 1 4
     ·rfl
     ·cases digB c.Trunk 0 2
      ·rfl
      ·simp only [Bool.not_true, cond_false, Option.bind_some, Bool.false_or]
       cases hpB c.Trunk c.Abroad
       ·simp only [cond_false]
        cases decide ((c.Areas.length : Int) > 300)
        ·simp only [cond_false]
         by_cases ha : errL (areaE c) 0 c.Areas = 0 <;> simp [ha, lret]
        ·rfl
       ·rfl
    ·rfl
   ·rfl
  ·rfl
theorem check_plan {p : List uT1} (hp : GoodP p) : uF154b p = some (planE p) := by
 have h := err_loop p (countryE p) (fun _ _ h => country_is hp h) (by simp [uF154a]);unfold uF154b planE;rw [h];by_cases hl : (p.length : Int) > 100
 ·simp [hl]
 ·simp only [decide_eq_false hl, cond_false, hl, if_false]
  by_cases he : errL (countryE p) 0 p = 0 <;> simp [he, lret]
theorem plan_fault {p : List uT1} (hp : GoodP p) : uF33a p = some (planE p) := by
 have h := err_loop p (countryE p) (fun _ _ h => fault_is hp h) (by simp [uF33b]);unfold uF33a planE;rw [h];by_cases hl : (p.length : Int) > 100
 ·simp [hl]
 ·simp only [decide_eq_false hl, cond_false, hl, if_false]
  by_cases he : errL (countryE p) 0 p = 0 <;> simp [he, lret]
theorem idx_find {α : Type} (q : α → Bool) : ∀ l : List α, (idxI q l < 0 ∧ l.find? q = none) ∨ (0 ≤ idxI q l ∧ ∃ a, idx l (idxI q l) = some a ∧ l.find? q = some a ∧ a ∈ l ∧ q a = true)
 | [] => .inl ⟨by simp [idxI_nil], rfl⟩
 | a :: l => by
  rw [idxI_cons]
  by_cases h : q a = true
  ·refine .inr ⟨by simp [h], a, ?_, ?_, by simp, h⟩
   ·simp [h, idx]
   ·simp [h]
  ·have h' : q a = false := by simpa using h
   rcases idx_find q l with ⟨h1, h2⟩ | ⟨h1, b, h2, h3, h4, h5⟩
   ·refine .inl ⟨?_, ?_⟩
    ·simp [h', h1]
    ·simp [h', h2]
   ·refine .inr ⟨?_, b, ?_, ?_, by simp [h4], h5⟩
    ·simp only [h', Bool.false_eq_true, if_false]
     rw [if_neg (by omega)]; omega
    ·simp only [h', Bool.false_eq_true, if_false]
     rw [if_neg (by omega)]
     obtain ⟨n, hn⟩ := Int.eq_ofNat_of_zero_le h1
     rw [hn] at h2 ⊢
     rw [show ((n : Int) + 1) = ((n + 1 : Nat) : Int) from by omega, idx_nat]
     rw [idx_nat] at h2
     simpa using h2
    ·simp [h', h3]
def firstR {T E : Type} (o : Option E) (z : T) : T ⊕ E := match o with
  | some r => .inr r
  | none => .inl z
theorem first_loop {α S E T : Type} {step : S → Option (S ⊕ (T ⊕ E))} (l : List α) (enc : Nat → S) (g : α → Option E) (z : T)
  (h : ∀ (i : Nat) (a : α), l[i]? = some a → step (enc i) = some (match g a with | some r => .inr (.inr r) | none => .inl (enc (i + 1)))) (hend : step (enc l.length) = some (.inr (.inl z))) :
  loopO step (enc 0) = some (firstR (l.findSome? g) z) := by
 have key : ∀ (m : List α) (i : Nat), foldE (fun _ a (_ : Unit) => some (match g a with | some r => (.inr (.inr r) : Unit ⊕ (T ⊕ E)) | none => .inl ())) (fun _ => (.inl z : T ⊕ E)) i m () = some (firstR (m.findSome? g) z) := by
  intro m;induction m with
  | nil => intro i; rfl
  | cons a m ih =>
   intro i;simp only [foldE, List.findSome?_cons];cases g a with
   | none => exact ih (i + 1)
   | some r => rfl
 have := loop_list (step := step) l (fun i (_ : Unit) => enc i) (fun _ a _ => some (match g a with | some r => (.inr (.inr r) : Unit ⊕ (T ⊕ E)) | none => .inl ())) (fun _ => .inl z) (fun i a s hi => by
  rw [h i a hi];cases g a <;> rfl) (fun s => hend) ()
 rw [← key l 0]; exact this
def formB (n : List UInt8) : Bool := hpB n [43] && (digB (n.drop 1) 4 15 && ((((n.drop 1)[0]?.getD 0).toNat : Int) != 48))
theorem hp_len {x y : List UInt8} (h : hpB x y = true) : y.length ≤ x.length := by simp [hpB] at h; exact h.1
theorem sub_drop {α : Type} {l : List α} {k : Nat} (h : k ≤ l.length) : sub l (k : Int) (l.length : Int) = some (l.drop k) := by
 unfold sub;rw [if_pos (by omega)]; simp
theorem dig_len {x : List UInt8} {lo hi : Int} (h : digB x lo hi = true) : lo ≤ x.length ∧ (x.length : Int) ≤ hi := by
 simp only [digB, Bool.and_eq_true, decide_eq_true_eq] at h; exact h.1
theorem isnum_is (n : List UInt8) (hn : n.length ≤ 100000) : uF144 n = some (formB n) := by
 unfold uF144 formB;rw [cut_is];cases hp : hpB n [43]
 ·rfl
 ·simp only [if_true, Option.bind_some, cond_true, Bool.true_and, List.length_cons, List.length_nil, Nat.zero_add]
  rw [dig_is' _ _ _ (by simp; omega)];cases hd : digB (n.drop 1) 4 15
  ·rfl
  ·obtain ⟨h1, _⟩ := dig_len hd
   have : idx (n.drop 1) 0 = some ((n.drop 1)[0]?.getD 0) := by
    cases hq : n.drop 1 with
    | nil => rw [hq] at h1; simp at h1
    | cons a x => rfl
   simp only [Option.bind_some, cond_true, this, Bool.true_and]
theorem form_is (n : List UInt8) (hn : n.length ≤ 100000) : uF101 n = some (formB n) := by
 unfold uF101 formB;rw [hp_is];cases hp : hpB n [43]
 ·rfl
 ·have hl := hp_len hp
  have hl : 1 ≤ n.length := by simpa using hl
  have hs : sub n 1 (n.length : Int) = some (n.drop 1) := sub_drop (k := 1) hl;simp only [Option.bind_some, cond_true, Bool.true_and, hs];rw [dig_is _ _ _ (by simp; omega)];cases hd : digB (n.drop 1) 4 15
  ·rfl
  ·obtain ⟨h1, _⟩ := dig_len hd
   have : idx n 1 = some ((n.drop 1)[0]?.getD 0) := by
    match n, h1 with
    | [], h1 => simp at h1
    | [_], h1 => simp at h1
    | _ :: b :: x, _ => rfl
   simp only [Option.bind_some, cond_true, this, Bool.true_and]
def noParts : uT4 := ⟨[], [], []⟩
def areaR (c : uT1) (nat : List UInt8) (a : uT2) : uT4 × Int :=
  bif decide ((nat.length : Int) < a.Low) || decide ((nat.length : Int) > a.High) then (noParts, 1) else (⟨c.Code, a.Prefix, nat.drop a.Prefix.length⟩, 0)
def splitE (p : List uT1) (n : List UInt8) : uT4 × Int :=
  bif !formB n then (noParts, 3) else match p.find? (fun c => hpB (n.drop 1) c.Code) with
  | none => (noParts, 8)
  | some c => match c.Areas.find? (fun a => hpB (n.drop (1 + c.Code.length)) a.Prefix) with
    | none => (noParts, 8)
    | some a => areaR c (n.drop (1 + c.Code.length)) a
theorem form_at {n : List UInt8} (h : formB n = true) : ∃ m, n = 43 :: m ∧ 4 ≤ m.length ∧ m.length ≤ 15 := by
 simp only [formB, Bool.and_eq_true] at h;obtain ⟨h1, h2, _⟩ := h;obtain ⟨h3, h4⟩ := dig_len h2;cases n with
 | nil => simp at h3
 | cons a m =>
  have : a = 43 := by simpa [hpB] using h1
  subst this;exact ⟨m, rfl, by simp at h3; omega, by simp at h4; omega⟩
theorem split_is {p : List uT1} (hp : GoodP p) (n : List UInt8) (hn : n.length ≤ 100000) : ∃ x, uF91 p n = some x ∧ (x.1.Parts, x.2) = splitE p n := by
 unfold uF91 splitE;rw [isnum_is n hn];simp only [Option.bind_some];cases hf : formB n
 ·exact ⟨_, rfl, rfl⟩
 ·obtain ⟨m, rfl, hm, hm2⟩ := form_at hf
  simp only [Bool.not_true, cond_false];have h1 : uF148 p (fun a0 => uF156 a0 (43 :: m)) = some (idxI (fun c => hpB ((43 :: m).drop 1) c.Code) p) :=
   idxF_loop p _ _ (fun a _ => by
    unfold uF156;rw [show sub (43 :: m) 1 ((43 :: m).length : Int) = some ((43 :: m).drop 1) from sub_drop (k := 1) (by simp)];simp only [Option.bind_some, hp_is]) (by have := hp.1; omega)
  simp only [h1, Option.bind_some];rcases idx_find (fun c : uT1 => hpB ((43 :: m).drop 1) c.Code) p with ⟨i1, i2⟩ | ⟨i1, c, i2, i3, i4, i5⟩
  ·simp only [decide_eq_true i1, cond_true, i2]
   exact ⟨_, rfl, rfl⟩
  ·have i5 : hpB m c.Code = true := i5
   have hcl := hp_len i5;have hc := hp.2 c i4;have ws : sub (43 :: m) (IntKind.wrap .i64 (1 + (c.Code.length : Int))) ((43 :: m).length : Int) = some ((43 :: m).drop (1 + c.Code.length)) := by
    rw [w64 (by omega) (by omega), show (1 + (c.Code.length : Int)) = ((1 + c.Code.length : Nat) : Int) from by omega];exact sub_drop (by simp; omega)
   simp only [decide_eq_false (show ¬ idxI (fun c : uT1 => hpB ((43 :: m).drop 1) c.Code) p < 0 from by omega), cond_false, i2, i3, Option.bind_some, ws];generalize (43 :: m).drop (1 + c.Code.length) = nat;have h2 : uF157 c.Areas (fun a0 => uF158 a0 nat) = some (idxI (fun a => hpB nat a.Prefix) c.Areas) :=
    idxF_loop c.Areas _ _ (fun a _ => by simp [uF158, hp_is]) (by have := hc.2.2.2.1; omega)
   simp only [h2, Option.bind_some];rcases idx_find (fun a : uT2 => hpB nat a.Prefix) c.Areas with ⟨j1, j2⟩ | ⟨j1, a, j2, j3, j4, j5⟩
   ·simp only [decide_eq_true j1, cond_true, j2]
    exact ⟨_, rfl, rfl⟩
   ·have hal := hp_len j5
    simp only [decide_eq_false (show ¬ idxI (fun a : uT2 => hpB nat a.Prefix) c.Areas < 0 from by omega), cond_false, j2, j3, Option.bind_some, sub_drop hal];unfold areaR;cases decide ((nat.length : Int) < a.Low) || decide ((nat.length : Int) > a.High)
    ·exact ⟨_, rfl, rfl⟩
    ·exact ⟨_, rfl, rfl⟩
/- The reference. -/
theorem hp_cons (m y : List UInt8) (a : UInt8) : hpB (a :: m) (a :: y) = hpB m y := by
 simp [hpB]
theorem in_is (x lo hi : Int) : uF103 x lo hi = some (decide (lo ≤ x) && decide (x ≤ hi)) := by simp [uF103, bnd]
theorem ref_areas {c : uT1} (hc : GoodC c) (nat : List UInt8) (z : uT4) : loopO (fun s : Int × uT4 => uF37b c (nat, true) s.1 s.2) (0, z) =
  some (firstR (c.Areas.findSome? (fun a => if hpB nat a.Prefix = true then some (areaR c nat a) else none)) z) := by
 have hl := hc.2.2.2.1;exact first_loop (step := fun s : Int × uT4 => uF37b c (nat, true) s.1 s.2) c.Areas (fun i => ((i : Int), z)) (fun a => if hpB nat a.Prefix = true then some (areaR c nat a) else none) z (fun i a hi => by
  have hlt := (List.getElem?_eq_some_iff.1 hi).1;have hd : decide ((i : Int) < (c.Areas.length : Int)) = true := decide_eq_true (by omega);simp only [uF37b, hd, cond_true, idx_nat, hi, Option.bind_some, cut_is, in_is, w64 (n := (i : Int) + 1) (by omega) (by omega)];cases hb : hpB nat a.Prefix
  ·simp
  ·simp only [if_true, cond_true, Option.bind_some, areaR]
   have : (!(decide (a.Low ≤ (nat.length : Int)) && decide ((nat.length : Int) ≤ a.High))) = (decide ((nat.length : Int) < a.Low) || decide ((nat.length : Int) > a.High)) := by
    rw [Bool.not_and, ← decide_not, ← decide_not];congr 1 <;> exact decide_eq_decide.2 (by omega)
   rw [this];cases decide ((nat.length : Int) < a.Low) || decide ((nat.length : Int) > a.High) <;> rfl) (by simp [uF37b])
theorem find_some {α β : Type} (q : α → Bool) (r : α → β) : ∀ l : List α, l.findSome? (fun a => if q a = true then some (r a) else none) = (l.find? q).map r
 | [] => rfl
 | a :: l => by
  by_cases h : q a = true
  ·simp [h]
  ·have h' : q a = false := by simpa using h
   simp only [List.findSome?_cons, h', Bool.false_eq_true, if_false, List.find?_cons, find_some q r l]
def Apart (p : List uT1) : Prop := p.Pairwise fun a b => hpB a.Code b.Code = false ∧ hpB b.Code a.Code = false
theorem take_both {m x y : List UInt8} (h1 : hpB m x = true) (h2 : hpB m y = true) : hpB x y = true ∨ hpB y x = true := by
 simp only [hpB, Bool.and_eq_true, decide_eq_true_eq, beq_iff_eq] at h1 h2 ⊢;obtain ⟨a1, a2⟩ := h1;obtain ⟨b1, b2⟩ := h2;rcases Nat.le_total x.length y.length with h | h
 ·refine .inr ⟨h, ?_⟩
  rw [← b2, List.take_take, Nat.min_eq_left h]; exact a2
 ·refine .inl ⟨h, ?_⟩
  rw [← a2, List.take_take, Nat.min_eq_left h]; exact b2
theorem first_only {β : Type} (m : List UInt8) (g : uT1 → Option β) : ∀ p : List uT1, Apart p → p.findSome? (fun c => if hpB m c.Code = true then g c else none) = (p.find? (fun c => hpB m c.Code)).bind g
 | [], _ => rfl
 | c :: p, h => by
  obtain ⟨h1, h2⟩ := List.pairwise_cons.1 h
  by_cases hc : hpB m c.Code = true
  ·simp only [List.findSome?_cons, hc, if_true, List.find?_cons, Option.bind_some]
   have hn : p.findSome? (fun c => if hpB m c.Code = true then g c else none) = none := by
    rw [List.findSome?_eq_none_iff]
    intro b hb
    have : hpB m b.Code = false := by
     cases hq : hpB m b.Code
     ·rfl
     ·obtain ⟨a1, a2⟩ := h1 b hb
      rcases take_both hc hq with h | h
      ·rw [a1] at h; exact absurd h (by simp)
      ·rw [a2] at h; exact absurd h (by simp)
    simp [this]
   rw [hn]
   cases g c <;> rfl
  ·have hc' : hpB m c.Code = false := by simpa using hc
   simp only [List.findSome?_cons, hc', Bool.false_eq_true, if_false, List.find?_cons]
   exact first_only m g p h2
theorem ref_split {p : List uT1} (hp : GoodP p) (ha : Apart p) (n : List UInt8) (hn : n.length ≤ 100000) : uF37 p n = some (splitE p n) := by
 unfold uF37 splitE;rw [form_is n hn];simp only [Option.bind_some];cases hf : formB n
 ·rfl
 ·obtain ⟨m, rfl, hm, hm2⟩ := form_at hf
  simp only [Bool.not_true, cond_false];have hl := hp.1;have h := first_loop (step := fun s : Int × uT4 => uF37a p (43 :: m) s.1 s.2) p (fun i => ((i : Int), noParts)) (fun c => if hpB m c.Code = true then c.Areas.findSome? (fun a => if hpB ((43 :: m).drop (1 + c.Code.length)) a.Prefix = true then some (areaR c ((43 :: m).drop (1 + c.Code.length)) a) else none) else none) noParts (fun i c hi => by
   have hlt := (List.getElem?_eq_some_iff.1 hi).1;have hd : decide ((i : Int) < (p.length : Int)) = true := decide_eq_true (by omega);have hc := hp.2 c (List.mem_of_getElem? hi);have hs : sadd [43] c.Code = some (43 :: c.Code) := sadd_of (by have := hc.1; simp; omega);simp only [uF37a, hd, cond_true, idx_nat, hi, Option.bind_some, hs, cut_is, hp_cons, w64 (n := (i : Int) + 1) (by omega) (by omega)];cases hb : hpB m c.Code
   ·simp
   ·simp only [if_true, Bool.not_true, cond_false]
    rw [show (43 :: c.Code).length = 1 + c.Code.length from by simp; omega, ref_areas hc];cases c.Areas.findSome? (fun a => if hpB ((43 :: m).drop (1 + c.Code.length)) a.Prefix = true then some (areaR c ((43 :: m).drop (1 + c.Code.length)) a) else none) <;> simp [lret, firstR]) (by simp [uF37a])
  have h : loopO (fun s : Int × uT4 => uF37a p (43 :: m) s.1 s.2) ((0 : Int), (⟨[], [], []⟩ : uT4)) = _ := h;rw [h, first_only m _ p ha];simp only [show (43 :: m).drop 1 = m from rfl];cases p.find? (fun c => hpB m c.Code) with
  | none => rfl
  | some c =>
   simp only [Option.bind_some, find_some];cases c.Areas.find? (fun a => hpB ((43 :: m).drop (1 + c.Code.length)) a.Prefix) <;> rfl
theorem bl_trans : ∀ {x y z : List UInt8}, Op.bytesLess x y = true → Op.bytesLess y z = true → Op.bytesLess x z = true
 | _, _, [], _, h => by simp [Op.bytesLess] at h
 | _, [], _ :: _, h, _ => by simp [Op.bytesLess] at h
 | [], _ :: _, _ :: _, _, _ => by simp [Op.bytesLess]
 | a :: x, b :: y, c :: z, h1, h2 => by
  simp only [Op.bytesLess, Bool.or_eq_true, decide_eq_true_eq, Bool.and_eq_true, beq_iff_eq] at h1 h2 ⊢
  rcases h1 with h1 | ⟨rfl, h1⟩
  ·rcases h2 with h2 | ⟨rfl, _⟩
   ·exact .inl (UInt8.lt_trans h1 h2)
   ·exact .inl h1
  ·rcases h2 with h2 | ⟨rfl, h2⟩
   ·exact .inl h2
   ·exact .inr ⟨rfl, bl_trans h1 h2⟩
theorem bl_tot : ∀ {x y : List UInt8}, Op.bytesLess x y = false → (x == y) = false → Op.bytesLess y x = true
 | [], [], _, h => by simp at h
 | _ :: _, [], _, _ => by simp [Op.bytesLess]
 | [], _ :: _, h, _ => by simp [Op.bytesLess] at h
 | a :: x, b :: y, h, k => by
  simp only [Op.bytesLess, Bool.or_eq_true, decide_eq_true_eq, Bool.and_eq_true, beq_iff_eq]
  simp only [Op.bytesLess, Bool.or_eq_false_iff, decide_eq_false_iff_not, Bool.and_eq_false_iff, beq_eq_false_iff_ne] at h
  by_cases e : a = b
  ·subst e
   refine .inr ⟨rfl, bl_tot (h.2.resolve_left (fun q => q rfl)) ?_⟩
   simpa using k
  ·refine .inl ?_
   have h1 := h.1
   have : ¬ a.toNat < b.toNat := fun q => h1 (UInt8.lt_iff_toNat_lt.2 q)
   have h2 : a.toNat ≠ b.toNat := fun q => e (UInt8.toNat_inj.1 q)
   exact UInt8.lt_iff_toNat_lt.2 (by omega)
theorem bl_pre : ∀ {x y : List UInt8}, hpB x y = true → Op.bytesLess x y = false
 | _, [], _ => by simp [Op.bytesLess]
 | [], b :: y, h => by simp [hpB] at h
 | a :: x, b :: y, h => by
  have h' : a = b ∧ hpB x y = true := by
   simp only [hpB, Bool.and_eq_true, decide_eq_true_eq, beq_iff_eq, List.length_cons, List.take_succ_cons, List.cons.injEq] at h ⊢
   exact ⟨h.2.1, by omega, h.2.2⟩
  obtain ⟨rfl, h'⟩ := h'
  simp [Op.bytesLess, bl_pre h']
theorem code_facts {p : List uT1} {k : Nat} {c : uT1} (h : countryE p k c = 0) : (0 < k → Op.bytesLess c.Code (p[k - 1]?.getD c).Code = false ∧ (c.Code == (p[k - 1]?.getD c).Code) = false) ∧ (p.take k).any (fun o => hpB c.Code o.Code) = false := by
 unfold countryE at h;simp only [] at h;cases h1 : !digB c.Code 1 3 || (((c.Code[0]?.getD 0).toNat : Int) == 48) with
 | true => rw [h1] at h; simp at h
 | false =>
  rw [h1] at h;simp only [cond_false] at h;cases h2 : decide (0 < k) && (Op.bytesLess c.Code (p[k - 1]?.getD c).Code || c.Code == (p[k - 1]?.getD c).Code) with
  | true => rw [h2] at h; simp at h
  | false =>
   rw [h2] at h;simp only [cond_false] at h;refine ⟨fun h0 => ?_, ?_⟩
   ·rw [decide_eq_true h0, Bool.true_and, Bool.or_eq_false_iff] at h2; exact h2
   ·cases h3 : (p.take k).any (fun o => hpB c.Code o.Code) with
    | false => rfl
    | true => rw [h3] at h; simp at h
theorem apart_of {p : List uT1} (h : planE p = 0) : Apart p := by
 have h0 : errL (countryE p) 0 p = 0 := by
  unfold planE at h;split at h
  ·simp at h
  ·exact h
 have hf : ∀ (k : Nat) (hk : k < p.length), countryE p k p[k] = 0 := fun k hk => by
  have := errL_zero h0 k p[k] (by simp [hk])
  simpa using this
 have step : ∀ (k : Nat) (hk : k + 1 < p.length), Op.bytesLess (p[k]'(by omega)).Code p[k + 1].Code = true := fun k hk => by
  have := (code_facts (hf (k + 1) hk)).1 (by omega)
  simp only [Nat.add_sub_cancel, show k < p.length from by omega, getElem?_pos, Option.getD_some] at this;exact bl_tot this.1 this.2
 have chain : ∀ (d i : Nat) (hj : i + d + 1 < p.length), Op.bytesLess (p[i]'(by omega)).Code p[i + d + 1].Code = true := by
  intro d;induction d with
  | zero => intro i hj; exact step i hj
  | succ d ih =>
   intro i hj;exact bl_trans (ih i (by omega)) (step (i + d + 1) hj)
 unfold Apart;rw [List.pairwise_iff_getElem];intro i j hi hj hij;have hc := (code_facts (hf j hj)).2;have hl := chain (j - i - 1) i (by omega);have hl : Op.bytesLess p[i].Code p[j].Code = true := by
  have e : i + (j - i - 1) + 1 = j := by omega
  simpa only [e] using hl
 refine ⟨?_, ?_⟩
 ·cases hq : hpB p[i].Code p[j].Code
  ·rfl
  ·rw [bl_pre hq] at hl; simp at hl
 ·have := List.any_eq_false.1 hc p[i] (by
   rw [List.mem_take_iff_getElem];exact ⟨i, by omega, rfl⟩)
  simpa using this

/- What is drawn. -/
theorem some_in (s : uT0) (l : List (List UInt8)) (k : Int) (hs : SOk s k) (hk : k ≤ 1000000) (hl : 0 < l.length) (hl2 : l.length ≤ 1000) : ∃ r, uF51 s l = some (⟨s.L, s.at_ + 1⟩, r) ∧ r ∈ l := by
 obtain ⟨r, e, r1, r2⟩ := next_is s l.length k hs (by omega) (by omega) (by omega);obtain ⟨x, hx, hm⟩ := idx_of r1 r2;exact ⟨x, by simp [uF51, e, hx, bnd], hm⟩
theorem odd_is (s : uT0) (lo hi k : Int) (hs : SOk s k) (hk : k ≤ 100000) (h1 : lo ≤ hi) (h2 : -1000000 ≤ lo) (h3 : hi ≤ 1000000) : ∃ s' r, uF62 s lo hi = some (s', r) ∧ SOk s' (k + 2) ∧ -2000000000000 ≤ r ∧ r ≤ 2000000000000 := by
 obtain ⟨b, e⟩ := flip_is s 12 k hs (by omega) (by omega) (by omega);unfold uF62;rw [e];simp only [Option.bind_some];cases b
 ·obtain ⟨r, e2, r1, r2⟩ := range_is ⟨s.L, s.at_ + 1⟩ lo hi (k + 1) hs.one (by omega) h1 (by omega) (by omega)
  refine ⟨⟨s.L, s.at_ + 1 + 1⟩, r, by simp only [cond_false, e2, Option.bind_some], by have := hs.one.one; rwa [show k + 1 + 1 = k + 2 from by omega] at this, by omega, by omega⟩
 ·obtain ⟨r, e2, hr⟩ := pick_in ⟨s.L, s.at_ + 1⟩ [(IntKind.wrap .i64 (lo - 1)), (IntKind.wrap .i64 (hi + 1)), lo, hi, -1099511627776, 1099511627776] (k + 1) hs.one (by omega) (by simp) (by simp)
  refine ⟨⟨s.L, s.at_ + 1 + 1⟩, r, by simp only [cond_true, e2, Option.bind_some], by have := hs.one.one; rwa [show k + 1 + 1 = k + 2 from by omega] at this, ?_⟩;rw [w64 (by omega) (by omega), w64 (by omega) (by omega)] at hr;simp only [List.mem_cons, List.not_mem_nil, or_false] at hr;rcases hr with rfl | rfl | rfl | rfl | rfl | rfl <;> omega

def SmallC (c : uT1) : Prop := c.Code.length ≤ 10 ∧ c.Abroad.length ≤ 10 ∧ c.Trunk.length ≤ 10 ∧ (1 ≤ c.Areas.length ∧ c.Areas.length ≤ 10) ∧ ∀ a ∈ c.Areas, a.Prefix.length ≤ 10 ∧ -2000000000000 ≤ a.Low ∧ a.Low ≤ 2000000000000 ∧ -2000000000000 ≤ a.High ∧ a.High ≤ 2000000000000
def SmallP (p : List uT1) : Prop := p.length = 3 ∧ ∀ c ∈ p, SmallC c
theorem SmallP.good {p : List uT1} (h : SmallP p) : GoodP p := by
 refine ⟨by have := h.1; omega, fun c hc => ?_⟩;obtain ⟨h1, h2, h3, h4, h5⟩ := h.2 c hc;refine ⟨by omega, by omega, by omega, by have := h4.2; omega, fun a ha => ?_⟩;obtain ⟨g1, g2, g3, g4, g5⟩ := h5 a ha;exact ⟨by omega, by omega, by omega, by omega, by omega⟩
theorem small_len {l : List (List UInt8)} (h : l.all (fun x => decide (x.length ≤ 10)) = true) {x : List UInt8} (hx : x ∈ l) : x.length ≤ 10 := by
 have := List.all_eq_true.1 h x hx; simpa using this
theorem cnl_small {s1 s2 : List UInt8} (h1 : s1.length ≤ 10) (h2 : s2.length ≤ 10) : SmallP (cnl s1 s2) := by
 refine ⟨rfl, fun c hc => ?_⟩;simp only [cnl, List.mem_cons, List.not_mem_nil, or_false] at hc;rcases hc with rfl | rfl | rfl
 ·refine ⟨by simp, by simp, h1, by simp [cnA0], fun a ha => ?_⟩
  simp only [cnA0, List.mem_cons, List.not_mem_nil, or_false] at ha;rcases ha with rfl | rfl <;> simp
 ·refine ⟨by simp, by simp, by simp, by simp [cnA1], fun a ha => ?_⟩
  simp only [cnA1, List.mem_cons, List.not_mem_nil, or_false] at ha;rcases ha with rfl | rfl | rfl <;> simp
 ·refine ⟨by simp, h2, by simp, by simp [cnA2], fun a ha => ?_⟩
  simp only [cnA2, List.mem_cons, List.not_mem_nil, or_false] at ha;rcases ha with rfl | rfl <;> simp
theorem cnl_areas (s1 s2 : List UInt8) : ∀ c ∈ cnl s1 s2, 1 ≤ c.Areas.length ∧ c.Areas.length ≤ 3 := by
 intro c hc;simp only [cnl, List.mem_cons, List.not_mem_nil, or_false] at hc;rcases hc with rfl | rfl | rfl <;> simp [cnA0, cnA1, cnA2]
theorem small_set {p : List uT1} (h : SmallP p) {c : uT1} (hc : SmallC c) (k : Nat) : SmallP (p.set k c) := by
 refine ⟨by simp [h.1], fun b hb => ?_⟩;rcases List.mem_or_eq_of_mem_set hb with hb | rfl
 ·exact h.2 b hb
 ·exact hc
theorem right_is (s : uT0) (k : Int) (hs : SOk s k) (hk : k ≤ 1000) : ∃ s1 s2, uF81 s = some (⟨s.L, s.at_ + 1 + 1⟩, cnl s1 s2) ∧ s1.length ≤ 10 ∧ s2.length ≤ 10 := by
 obtain ⟨s1, e1, m1⟩ := some_in s [([49] : List UInt8), ([49] : List UInt8), ([] : List UInt8)] k hs (by omega) (by simp) (by simp);obtain ⟨s2, e2, m2⟩ := some_in ⟨s.L, s.at_ + 1⟩ [([48, 48] : List UInt8), ([48] : List UInt8)] (k + 1) hs.one (by omega) (by simp) (by simp);refine ⟨s1, s2, ?_, small_len (by decide) m1, small_len (by decide) m2⟩;unfold uF81;simp only [e1, e2, Option.bind_some];rfl
theorem countries_is (s : uT0) (k : Int) (hs : SOk s k) (hk : k ≤ 1000) : ∃ s' p, uF25 s = some (s', p) ∧ SOk s' (k + 12) ∧ SmallP p := by
 obtain ⟨s1, s2, e1, h1, h2⟩ := right_is s k hs hk;have hp := cnl_small h1 h2;have har := cnl_areas s1 s2;generalize cnl s1 s2 = p at e1 hp har;have o2 := hs.one.one;obtain ⟨b, e3⟩ := flip_is ⟨s.L, s.at_ + 1 + 1⟩ 12 (k + 1 + 1) o2 (by omega) (by omega) (by omega);have o3 := o2.one;unfold uF25;simp only [e1, e3, Option.bind_some];cases b
 ·exact ⟨_, p, rfl, o3.up (by omega), hp⟩
 ·simp only [cond_true]
  obtain ⟨n, e4, n1, n2⟩ := next_is ⟨s.L, s.at_ + 1 + 1 + 1⟩ 3 (k + 1 + 1 + 1) o3 (by omega) (by omega) (by omega);have o4 := o3.one;obtain ⟨w, e5, w1, w2⟩ := next_is ⟨s.L, s.at_ + 1 + 1 + 1 + 1⟩ 6 (k + 1 + 1 + 1 + 1) o4 (by omega) (by omega) (by omega);have o5 := o4.one;obtain ⟨c, ec, hcm⟩ := idx_of (l := p) n1 (by have := hp.1; omega);obtain ⟨c1, c2, c3, c4, c5⟩ := hp.2 c hcm;simp only [e4, e5, ec, Option.bind_some];generalize ht : (⟨s.L, s.at_ + 1 + 1 + 1 + 1 + 1⟩ : uT0) = t at o5;have some_ : ∀ (l : List (List UInt8)), 0 < l.length → l.length ≤ 1000 → l.all (fun x => decide (x.length ≤ 10)) = true → ∃ r, uF51 t l = some (⟨t.L, t.at_ + 1⟩, r) ∧ r.length ≤ 10 := fun l g1 g2 g3 => by
   obtain ⟨r, er, hr⟩ := some_in t l _ o5 (by omega) g1 g2;exact ⟨r, er, small_len g3 hr⟩
  have o6 := o5.one;cases w == 0
  ·simp only [cond_false]
   cases w == 1
   ·simp only [cond_false]
    cases w == 2
    ·simp only [cond_false]
     cases w == 3
     ·simp only [cond_false]
      cases w == 4
      ·simp only [cond_false]
       refine ⟨_, _, rfl, o5.up (by omega), ⟨by simp [hp.1], fun b hb => hp.2 b (by simpa using hb)⟩⟩
      ·simp only [cond_true]
       obtain ⟨t1, lo, el, ol, l1, l2⟩ := odd_is t 1 6 _ o5 (by omega) (by omega) (by omega) (by omega);obtain ⟨t2, hi, eh, oh, g1, g2⟩ := odd_is t1 3 14 _ ol (by omega) (by omega) (by omega) (by omega);simp only [el, eh, Option.bind_some];cases hA : c.Areas with
       | nil => have := (har c hcm).1; rw [hA] at this; simp at this
       | cons a l =>
        refine ⟨_, _, rfl, oh.up (by omega), small_set hp (c := { c with Areas := { a with Low := lo, High := hi } :: l }) ⟨c1, c2, c3, ?_, ?_⟩ _⟩
        ·rw [hA] at c4; simpa using c4
        ·intro b hb
         simp only [List.mem_cons] at hb;rcases hb with rfl | hb
         ·have := c5 a (by rw [hA]; simp)
          exact ⟨this.1, l1, l2, g1, g2⟩
         ·exact c5 b (by rw [hA]; simp [hb])
     ·simp only [cond_true]
      obtain ⟨r, er, hr⟩ := some_ [([] : List UInt8), [56, 57, 49], [57, 57], [48], [49, 50, 51, 52, 53, 54, 55, 56, 57], [51, 48]] (by simp) (by simp) (by decide);obtain ⟨lo, el, hl⟩ := pick_in ⟨t.L, t.at_ + 1⟩ [3, 2, 9] _ o6 (by omega) (by simp) (by simp);obtain ⟨hi, eh, hh⟩ := pick_in ⟨t.L, t.at_ + 1 + 1⟩ [9, 2, 14] _ o6.one (by omega) (by simp) (by simp);simp only [er, el, eh, Option.bind_some];refine ⟨_, _, rfl, o6.one.one.up (by omega), small_set hp (c := { c with Areas := c.Areas ++ [⟨r, lo, hi⟩] }) ⟨c1, c2, c3, ?_, ?_⟩ _⟩
      ·have := (har c hcm).2; simp only [List.length_append, List.length_cons, List.length_nil]; omega
      ·intro b hb
       simp only [List.mem_append, List.mem_cons, List.not_mem_nil, or_false] at hb;rcases hb with hb | rfl
       ·exact c5 b hb
       ·simp only [List.mem_cons, List.not_mem_nil, or_false] at hl hh
        exact ⟨hr, by simp only []; omega, by simp only []; omega, by simp only []; omega, by simp only []; omega⟩
    ·simp only [cond_true]
     obtain ⟨r, er, hr⟩ := some_ [([48, 48, 48] : List UInt8), [48, 48], [120], [51]] (by simp) (by simp) (by decide);simp only [er, Option.bind_some];exact ⟨_, _, rfl, o6.up (by omega), small_set hp (c := { c with Trunk := r }) ⟨c1, c2, hr, c4, c5⟩ _⟩
   ·simp only [cond_true]
    obtain ⟨r, er, hr⟩ := some_ [([] : List UInt8), [48, 48, 48, 48, 48], [120], [48], [51], [48, 51], [48, 51, 48]] (by simp) (by simp) (by decide);simp only [er, Option.bind_some];exact ⟨_, _, rfl, o6.up (by omega), small_set hp (c := { c with Abroad := r }) ⟨c1, hr, c3, c4, c5⟩ _⟩
  ·simp only [cond_true]
   obtain ⟨r, er, hr⟩ := some_ [([] : List UInt8), [48], [52], [49, 50, 51, 52], [97], [52, 57]] (by simp) (by simp) (by decide);simp only [er, Option.bind_some];exact ⟨_, _, rfl, o6.up (by omega), small_set hp (c := { c with Code := r }) ⟨hr, c2, c3, c4, c5⟩ _⟩
theorem range_w (s : uT0) (lo hi k : Int) (hs : SOk s k) (hk : k ≤ 100000) (h2 : -4000000000000 ≤ lo) (h2' : lo ≤ 4000000000000) (h3 : hi ≤ 4000000000000) :
  ∃ s' r, uF61 s lo hi = some (s', r) ∧ SOk s' (k + 1) ∧ lo ≤ r ∧ (r ≤ hi ∨ r ≤ lo) := by
 by_cases hlt : hi < lo
 ·exact ⟨s, lo, by simp [uF61, hlt], hs.up (by omega), by omega, .inr (by omega)⟩
 ·obtain ⟨r, e, r1, r2⟩ := next_is s (hi - lo + 1) k hs (by omega) (by omega) (by omega)
  refine ⟨⟨s.L, s.at_ + 1⟩, lo + r, ?_, hs.one, by omega, .inl (by omega)⟩;simp (disch := omega) [uF61, hlt, w64, e, bnd]
theorem row_is (n : Int) (s : uT0) (k : Int) (h0 : 0 ≤ n) (hn : n ≤ 100) (hs : SOk s k) (hk : k ≤ 10000) : ∃ s' d, uF85 s n = some (s', d) ∧ SOk s' (k + n) ∧ (d.length : Int) ≤ n := by
 obtain ⟨e, e1, e2, e3⟩ := loopO_ind (step := fun s : List UInt8 × Int × uT0 => uF85a n s.1 s.2.1 s.2.2)
  (fun s => 0 ≤ s.2.1 ∧ s.2.1 ≤ n ∧ (s.1.length : Int) ≤ s.2.1 ∧ SOk s.2.2 (k + s.2.1)) (fun e => SOk e.2 (k + n) ∧ (e.1.length : Int) ≤ n) (fun s => (n - s.2.1).toNat) (by
   rintro ⟨d, w, t⟩ ⟨g1, g2, g3, g4⟩;simp only [] at g1 g2 g3 g4;by_cases hw : w < n
   ·obtain ⟨r, er, hr⟩ := some_in t [([48] : List UInt8), [49], [50], [51], [48], [57], [53]] (k + w) g4 (by omega) (by simp) (by simp)
    have hl : r.length = 1 := by
     simp only [List.mem_cons, List.not_mem_nil, or_false] at hr;rcases hr with rfl | rfl | rfl | rfl | rfl | rfl | rfl <;> rfl
    refine .inr ⟨(d ++ r, w + 1, ⟨t.L, t.at_ + 1⟩), ?_, ⟨by simp only []; omega, by simp only []; omega, by simp only [List.length_append, hl]; omega, ?_⟩, by simp only []; omega⟩
    ·simp only [uF85a, decide_eq_true hw, cond_true, er, Option.bind_some, sadd_of (show d.length + r.length ≤ 4611686018427387904 by omega), w64 (n := w + 1) (by omega) (by omega)]
    ·have := g4.one; rwa [show k + w + 1 = k + (w + 1) from by omega] at this
   ·refine .inl ⟨(d, t), ?_, ?_, ?_⟩
    ·simp only [uF85a, decide_eq_false hw, cond_false]
    ·exact g4.up (by omega)
    ·simp only []; omega) ([], 0, s) ⟨by simp, by simpa using h0, by simp, by simpa using hs⟩
 refine ⟨e.2, e.1, ?_, e2, e3⟩;unfold uF85;simp only [bnd, e1, Option.bind_some]
theorem number_is (s : uT0) (p : List uT1) (k : Int) (hs : SOk s k) (hk : k ≤ 1000) (hp : SmallP p) : ∃ s' n, uF27 s p = some (s', n) ∧ SOk s' (k + 40) ∧ n.length ≤ 100 := by
 obtain ⟨b, e1⟩ := flip_is s 6 k hs (by omega) (by omega) (by omega);have o1 := hs.one;have hl : (p.length : Int) = 3 := by have := hp.1; omega
 have h3 : (p.length == 0) = false := by rw [hp.1]; rfl
 have hany : uF83 p (fun a0 => uF84 a0) = some (p.any fun c => ((c.Areas.length : Int) == 0)) :=
  any_is _ _ _ (fun a _ => by simp only [uF84, bnd]) (by rw [hp.1]; omega)
 have e2 : (bif (b || ((p.length : Int) == 0)) then (some true) else ((uF83 p (fun a0 => uF84 a0)).bind fun y33 => some y33)) = some (b || p.any fun c => ((c.Areas.length : Int) == 0)) := by
  rw [hany, hl];cases b <;> simp
 unfold uF27;simp only [bnd, e1, Option.bind_some, e2];cases hb : b || p.any fun c => ((c.Areas.length : Int) == 0)
 ·simp only [cond_false]
  rw [Bool.or_eq_false_iff] at hb;obtain ⟨i, e3, i1, i2⟩ := next_is ⟨s.L, s.at_ + 1⟩ p.length (k + 1) o1 (by omega) (by omega) (by omega);have o2 := o1.one;obtain ⟨c, ec, hc⟩ := idx_of (l := p) i1 i2;obtain ⟨c1, c2, c3, c4, c5⟩ := hp.2 c hc;have hne : c.Areas.length ≠ 0 := by
   have := List.any_eq_false.1 hb.2 c hc
   simpa using this
  obtain ⟨j, e4, j1, j2⟩ := next_is ⟨s.L, s.at_ + 1 + 1⟩ c.Areas.length (k + 1 + 1) o2 (by omega) (by omega) (by omega);have o3 := o2.one;obtain ⟨a, ea, ha⟩ := idx_of (l := c.Areas) j1 j2;obtain ⟨a1, a2, a3, a4, a5⟩ := c5 a ha;have hs1 : sadd [43] c.Code = some (43 :: c.Code) := sadd_of (by simp; omega);have hs2 : sadd (43 :: c.Code) a.Prefix = some (43 :: c.Code ++ a.Prefix) := sadd_of (by simp; omega);simp only [e3, ec, e4, ea, Option.bind_some, hs1, hs2];have m1 : -4000000000000 ≤ gmin a.Low 12 ∧ gmin a.Low 12 ≤ 12 := by unfold gmin; split <;> omega
  have m2 : gmin a.High 13 ≤ 13 := by unfold gmin; split <;> omega
  generalize gmin a.Low 12 = lo at m1;generalize gmin a.High 13 = hi at m2;obtain ⟨t, r, e5, o4, r1, r2⟩ := range_w ⟨s.L, s.at_ + 1 + 1 + 1⟩ lo hi _ o3 (by omega) (by omega) (by omega) (by omega);obtain ⟨q, e6, hq⟩ := pick_in t [0, 0, 0, 0, 0, 1, -1] _ o4 (by omega) (by simp) (by simp);have o5 := o4.one;have hq' : -1 ≤ q ∧ q ≤ 1 := by
   simp only [List.mem_cons, List.not_mem_nil, or_false] at hq;omega
  simp only [e5, e6, Option.bind_some];rw [w64 (n := r - (a.Prefix.length : Int)) (by omega) (by omega), w64 (n := r - (a.Prefix.length : Int) + q) (by omega) (by omega)];have m3 : 0 ≤ gmax 0 (r - (a.Prefix.length : Int) + q) ∧ gmax 0 (r - (a.Prefix.length : Int) + q) ≤ 14 := by unfold gmax; split <;> omega
  generalize gmax 0 (r - (a.Prefix.length : Int) + q) = many at m3;obtain ⟨t', d, e7, o6, hd⟩ := row_is many ⟨t.L, t.at_ + 1⟩ _ m3.1 (by omega) o5 (by omega);have hs3 : sadd (43 :: c.Code ++ a.Prefix) d = some (43 :: c.Code ++ a.Prefix ++ d) := sadd_of (by simp; omega);simp only [e7, hs3, Option.bind_some];exact ⟨_, _, rfl, o6.up (by omega), by simp; omega⟩
 ·simp only [cond_true]
  obtain ⟨r, er, hr⟩ := some_in ⟨s.L, s.at_ + 1⟩ [([] : List UInt8), [43], [43, 49, 50, 51], [43, 48, 49, 50, 51], [52, 57, 51, 48, 49], [43, 52, 57, 51, 48, 49, 50, 51, 52, 53, 54, 55, 56, 57, 48, 49, 50, 51], [43, 55, 49, 50, 51], [43, 52, 57, 49, 49], [43, 52, 57, 51, 48], [43, 52, 57, 51, 48, 49, 50, 51, 52, 53, 54, 55, 56], [43, 49, 50, 48, 57]] (k + 1) o1 (by omega) (by simp) (by simp);have hlen : r.length ≤ 100 := by
   have := List.all_eq_true.1 (show ([([] : List UInt8), [43], [43, 49, 50, 51], [43, 48, 49, 50, 51], [52, 57, 51, 48, 49], [43, 52, 57, 51, 48, 49, 50, 51, 52, 53, 54, 55, 56, 57, 48, 49, 50, 51], [43, 55, 49, 50, 51], [43, 52, 57, 49, 49], [43, 52, 57, 51, 48], [43, 52, 57, 51, 48, 49, 50, 51, 52, 53, 54, 55, 56], [43, 49, 50, 48, 57]].all fun x => decide (x.length ≤ 100)) = true by decide) r hr
   simpa using this
  simp only [er, Option.bind_some];exact ⟨_, _, rfl, o1.one.up (by omega), hlen⟩
theorem only_one {α β : Type} (q : α → Bool) (g : α → Option β) : ∀ p : List α, p.Pairwise (fun a b => ¬ (q a = true ∧ q b = true)) → p.findSome? (fun c => if q c = true then g c else none) = (p.find? q).bind g
 | [], _ => rfl
 | c :: p, h => by
  obtain ⟨h1, h2⟩ := List.pairwise_cons.1 h
  by_cases hc : q c = true
  ·simp only [List.findSome?_cons, hc, if_true, List.find?_cons, Option.bind_some]
   have hn : p.findSome? (fun c => if q c = true then g c else none) = none := by
    rw [List.findSome?_eq_none_iff]
    intro b hb
    have : ¬ q b = true := fun hq => h1 b hb ⟨hc, hq⟩
    simp [this]
   rw [hn]
   cases g c <;> rfl
  ·have hc' : q c = false := by simpa using hc
   simp only [List.findSome?_cons, hc', Bool.false_eq_true, if_false, List.find?_cons]
   exact only_one q g p h2
theorem hp_self (x : List UInt8) : hpB x x = true := by simp [hpB]
theorem Apart.code {p : List uT1} (h : Apart p) (k : List UInt8) : p.Pairwise (fun a b => ¬ ((a.Code == k) = true ∧ (b.Code == k) = true)) := by
 refine h.imp fun {a b} hab hk => ?_;obtain ⟨h1, h2⟩ := hk;rw [beq_iff_eq] at h1 h2
 have := hab.1
 rw [h1, h2, hp_self] at this;simp at this
def noC : uT1 := ⟨[], [], [], []⟩
def noA : uT2 := ⟨[], 0, 0⟩
def homeR (p : List uT1) (h : uT3) : uT1 × uT2 × Int := match p.find? (fun c => c.Code == h.Country) with
  | none => (noC, noA, 8)
  | some c => if (h.Area == []) = true then (c, noA, 0) else match c.Areas.find? (fun a => a.Prefix == h.Area) with
    | none => (noC, noA, 8)
    | some a => (c, a, 0)
theorem home_l1 {c : uT1} (hc : GoodC c) (h : uT3) (z : uT1 × uT2) : loopO (fun s : Int × uT1 × uT2 => uF155a h c s.1 s.2.1 s.2.2) (0, z) =
  some (firstR (c.Areas.findSome? (fun a => if (a.Prefix == h.Area) = true then some (c, a, (0 : Int)) else none)) z) := by
 have hl := hc.2.2.2.1;exact first_loop (step := fun s : Int × uT1 × uT2 => uF155a h c s.1 s.2.1 s.2.2) c.Areas (fun i => ((i : Int), z)) (fun a => if (a.Prefix == h.Area) = true then some (c, a, (0 : Int)) else none) z (fun i a hi => by
  have hlt := (List.getElem?_eq_some_iff.1 hi).1;have hd : decide ((i : Int) < (c.Areas.length : Int)) = true := decide_eq_true (by omega);simp only [uF155a, hd, cond_true, idx_nat, hi, Option.bind_some, w64 (n := (i : Int) + 1) (by omega) (by omega)];cases a.Prefix == h.Area <;> simp) (by simp [uF155a])
theorem home_is {p : List uT1} (hp : GoodP p) (ha : Apart p) (h : uT3) : uF155b p h = some (homeR p h) := by
 have hl := hp.1;have hloop := first_loop (step := fun s : Int × uT1 × uT2 => uF155 p h s.1 s.2.1 s.2.2) p (fun i => ((i : Int), noC, noA)) (fun c => if (c.Code == h.Country) = true then (if (h.Area == []) = true then some (c, noA, (0 : Int)) else c.Areas.findSome? (fun a => if (a.Prefix == h.Area) = true then some (c, a, (0 : Int)) else none)) else none) (noC, noA) (fun i c hi => by
  have hlt := (List.getElem?_eq_some_iff.1 hi).1;have hd : decide ((i : Int) < (p.length : Int)) = true := decide_eq_true (by omega);have hc := hp.2 c (List.mem_of_getElem? hi);simp only [uF155, hd, cond_true, idx_nat, hi, Option.bind_some, w64 (n := (i : Int) + 1) (by omega) (by omega)];cases c.Code == h.Country
  ·simp
  ·simp only [Bool.not_true, cond_false, if_true]
   cases h.Area == []
   ·simp only [cond_false, Bool.false_eq_true, if_false]
    rw [home_l1 hc h (noC, noA)];cases c.Areas.findSome? (fun a => if (a.Prefix == h.Area) = true then some (c, a, (0 : Int)) else none) <;> simp [lret, firstR]
   ·simp only [cond_true, if_true]; rfl) (by simp [uF155])
 have hloop : loopO (fun s : Int × uT1 × uT2 => uF155 p h s.1 s.2.1 s.2.2) ((0 : Int), (⟨[], [], [], []⟩ : uT1), (⟨[], 0, 0⟩ : uT2)) = _ := hloop;unfold uF155b homeR;rw [hloop, only_one (fun c : uT1 => c.Code == h.Country) _ p (ha.code _)];cases p.find? (fun c => c.Code == h.Country) with
 | none => rfl
 | some c =>
  simp only [Option.bind_some];cases h.Area == []
  ·simp only [Bool.false_eq_true, if_false, find_some]
   cases c.Areas.find? (fun a => a.Prefix == h.Area) <;> rfl
  ·rfl
theorem open_is {p : List uT1} (hp : GoodP p) (h : uT3) : uF90 p h = some (if planE p = 0 then homeR p h else (noC, noA, planE p)) := by
 unfold uF90;rw [check_plan hp];simp only [Option.bind_some];by_cases e : planE p = 0
 ·rw [e]
  simp only [bne_self_eq_false, cond_false, if_true, home_is hp (apart_of e), Option.bind_some]
 ·have : (planE p != 0) = true := by simpa using e
  simp only [this, cond_true, e, if_false]; rfl
theorem at_is {p : List uT1} (hp : GoodP p) (k : List UInt8) : uF97 p k = some (idxI (fun c => c.Code == k) p) := by
 have h : uF148 p (fun a0 => uF162 a0 k) = some (idxI (fun c => c.Code == k) p) :=
  idxF_loop p _ _ (fun a _ => by simp [uF162, bnd]) (by have := hp.1; omega)
 unfold uF97;simp only [h, Option.bind_some]
theorem fault_home {p : List uT1} (hp : GoodP p) (h : uT3) : uF34 p h = some (homeR p h).2.2 := by
 unfold uF34 homeR;rw [at_is hp];simp only [Option.bind_some];rcases idx_find (fun c : uT1 => c.Code == h.Country) p with ⟨i1, i2⟩ | ⟨i1, c, i2, i3, i4, i5⟩
 ·simp only [decide_eq_true i1, cond_true, Option.bind_some, i2]
 ·have hc := hp.2 c i4
  simp only [decide_eq_false (show ¬ idxI (fun c : uT1 => c.Code == h.Country) p < 0 from by omega), cond_false, i2, i3, Option.bind_some];cases h.Area == []
  ·have hany : uF98 c.Areas (fun a0 => uF99 a0 h) = some (c.Areas.any fun a => a.Prefix == h.Area) := by
    have h1 : uF157 c.Areas (fun a0 => uF99 a0 h) = some (idxI (fun a => a.Prefix == h.Area) c.Areas) :=
     idxF_loop c.Areas _ _ (fun a _ => by simp [uF99, bnd]) (by have := hc.2.2.2.1; omega)
    unfold uF98;simp only [h1, Option.bind_some, bnd, idxI_any]
   simp only [Bool.not_false, cond_true, hany, Option.bind_some, Bool.false_eq_true, if_false];cases hf : c.Areas.find? (fun a => a.Prefix == h.Area) with
   | none =>
    have : c.Areas.any (fun a => a.Prefix == h.Area) = false := by
     rw [List.any_eq_false]; intro a ha; have := List.find?_eq_none.1 hf a ha; simpa using this
    rw [this]; rfl
   | some a =>
    have : c.Areas.any (fun a => a.Prefix == h.Area) = true := by
     rw [List.any_eq_true];exact ⟨a, List.mem_of_find?_eq_some hf, List.find?_some (p := fun a : uT2 => a.Prefix == h.Area) hf⟩
    rw [this]; rfl
  ·rfl
def goE (p : List uT1) (n : List UInt8) : List UInt8 × Int := if (splitE p n).2 = 0 then (n, 0) else ([], (splitE p n).2)
def reachE (p : List uT1) (c : uT1) (h : uT3) (d : List UInt8) : List UInt8 × Int :=
  bif !digB d 1 30 then ([], 3)
  else bif hpB d c.Abroad then goE p (43 :: d.drop c.Abroad.length)
  else bif hpB d c.Trunk then goE p (43 :: (c.Code ++ d.drop c.Trunk.length))
  else bif !(h.Area == []) then goE p (43 :: (c.Code ++ (h.Area ++ d))) else ([], 8)
theorem go_is {p : List uT1} (hp : GoodP p) (n : List UInt8) (hn : n.length ≤ 100000) : ((uF91 p n).bind fun y => bif y.2 != 0 then some (([] : List UInt8), y.2) else some (n, (0 : Int))) = some (goE p n) := by
 obtain ⟨x, e1, e2⟩ := split_is hp n hn;have e3 : x.2 = (splitE p n).2 := by rw [← e2]
 simp only [e1, Option.bind_some, goE, e3];by_cases h : (splitE p n).2 = 0
 ·simp [h]
 ·have : ((splitE p n).2 != 0) = true := by simpa using h
  simp only [this, cond_true, h, if_false]
theorem go_ref {p : List uT1} (hp : GoodP p) (ha : Apart p) (n : List UInt8) (hn : n.length ≤ 100000) : ((uF37 p n).bind fun y => bif y.2 != 0 then some (([] : List UInt8), y.2) else some (n, (0 : Int))) = some (goE p n) := by
 simp only [ref_split hp ha n hn, Option.bind_some, goE];by_cases h : (splitE p n).2 = 0
 ·simp [h]
 ·have : ((splitE p n).2 != 0) = true := by simpa using h
  simp only [this, cond_true, h, if_false]
theorem reach_is {p : List uT1} (hp : GoodP p) {c : uT1} (hcc : c.Code.length ≤ 100) (h : uT3) (hh : h.Area.length ≤ 100) (d : List UInt8) (hd : d.length ≤ 1000) : uF93 p c h d = some (reachE p c h d) := by
 unfold uF93 reachE;simp only [bnd, dig_is' d 1 30 (by omega), Option.bind_some, cut_is];cases digB d 1 30
 ·rfl
 ·simp only [Bool.not_true, cond_false]
  cases hpB d c.Abroad
  ·simp only [Bool.false_eq_true, if_false, cond_false]
   cases hpB d c.Trunk
   ·simp only [Bool.false_eq_true, if_false, cond_false]
    cases h.Area == []
    ·have s1 : sadd [43] c.Code = some (43 :: c.Code) := sadd_of (by simp; omega)
     have s2 : sadd (43 :: c.Code) h.Area = some (43 :: c.Code ++ h.Area) := sadd_of (by simp; omega);have s3 : sadd (43 :: c.Code ++ h.Area) d = some (43 :: (c.Code ++ (h.Area ++ d))) := by rw [sadd_of (by simp; omega)]; simp
     simp only [Bool.not_false, cond_true, s1, s2, s3, Option.bind_some];exact go_is hp _ (by simp; omega)
    ·rfl
   ·have s1 : sadd [43] c.Code = some (43 :: c.Code) := sadd_of (by simp; omega)
    have s2 : sadd (43 :: c.Code) (d.drop c.Trunk.length) = some (43 :: (c.Code ++ d.drop c.Trunk.length)) := sadd_of (by simp; omega);simp only [if_true, cond_true, s1, s2, Option.bind_some];exact go_is hp _ (by simp; omega)
  ·have s1 : sadd [43] (d.drop c.Abroad.length) = some (43 :: d.drop c.Abroad.length) := sadd_of (by simp; omega)
   simp only [if_true, cond_true, s1, Option.bind_some];exact go_is hp _ (by simp; omega)
theorem reach_ref {p : List uT1} (hp : GoodP p) (ha : Apart p) {c : uT1} (h : uT3) (hf : p.find? (fun c => c.Code == h.Country) = some c) (hcc : c.Code.length ≤ 100) (hh : h.Area.length ≤ 100) (d : List UInt8) (hd : d.length ≤ 1000) : uF48 p h d = some (reachE p c h d) := by
 have hidx : idx p (idxI (fun c => c.Code == h.Country) p) = some c := by
  rcases idx_find (fun c : uT1 => c.Code == h.Country) p with ⟨i1, i2⟩ | ⟨i1, c', i2, i3, i4, i5⟩
  ·rw [i2] at hf; simp at hf
  ·rw [i3] at hf; rw [i2]; exact hf
 unfold uF48 reachE;simp only [bnd, dig_is d 1 30 (by omega), Option.bind_some, at_is hp, hidx, hp_is];cases digB d 1 30
 ·rfl
 ·simp only [Bool.not_true, cond_false]
  cases h1 : hpB d c.Abroad
  ·simp only [cond_false]
   cases h2 : hpB d c.Trunk
   ·simp only [cond_false]
    cases h.Area == []
    ·have s1 : sadd [43] c.Code = some (43 :: c.Code) := sadd_of (by simp; omega)
     have s2 : sadd (43 :: c.Code) h.Area = some (43 :: c.Code ++ h.Area) := sadd_of (by simp; omega);have s3 : sadd (43 :: c.Code ++ h.Area) d = some (43 :: (c.Code ++ (h.Area ++ d))) := by rw [sadd_of (by simp; omega)]; simp
     simp only [Bool.not_false, cond_true, s1, s2, s3, Option.bind_some];exact go_ref hp ha _ (by simp; omega)
    ·rfl
   ·have s0 : sub d (c.Trunk.length : Int) (d.length : Int) = some (d.drop c.Trunk.length) := sub_drop (hp_len h2)
    have s1 : sadd [43] c.Code = some (43 :: c.Code) := sadd_of (by simp; omega);have s2 : sadd (43 :: c.Code) (d.drop c.Trunk.length) = some (43 :: (c.Code ++ d.drop c.Trunk.length)) := sadd_of (by simp; omega);simp only [cond_true, s0, s1, s2, Option.bind_some];exact go_ref hp ha _ (by simp; omega)
  ·have s0 : sub d (c.Abroad.length : Int) (d.length : Int) = some (d.drop c.Abroad.length) := sub_drop (hp_len h1)
   have s1 : sadd [43] (d.drop c.Abroad.length) = some (43 :: d.drop c.Abroad.length) := sadd_of (by simp; omega);simp only [cond_true, s0, s1, Option.bind_some];exact go_ref hp ha _ (by simp; omega)
def seps : List UInt8 := [32, 45, 46, 47, 40, 41]
def keysOk : Bool := (List.range 256).all fun b => match uF88 (b : Int), uF89 (b : Int), uF92 seps (b : Int) with
  | some k, some k', some i => k == k' && decide (0 ≤ k) && decide (k < 256) && (decide (i < 0) || k == 0 && b != 43)
  | _, _, _ => false
theorem keys_ok : keysOk = true := by kernel_rfl
def keyN (b : UInt8) : Int := (uF88 (b.toNat : Int)).getD 0
def sepN (b : UInt8) : Int := (uF92 seps (b.toNat : Int)).getD 0
theorem key_is (b : UInt8) : uF88 (b.toNat : Int) = some (keyN b) ∧ uF89 (b.toNat : Int) = some (keyN b) ∧ uF92 seps (b.toNat : Int) = some (sepN b) ∧ 0 ≤ keyN b ∧ keyN b < 256 ∧ (0 ≤ sepN b → keyN b = 0 ∧ b.toNat ≠ 43) := by
 have h := List.all_eq_true.1 keys_ok b.toNat (by simp [UInt8.toNat_lt b]);unfold keyN sepN;cases h1 : uF88 (b.toNat : Int) with
 | none => rw [h1] at h; simp at h
 | some k =>
  cases h2 : uF89 (b.toNat : Int) with
  | none => rw [h1, h2] at h; simp at h
  | some k' =>
   cases h3 : uF92 seps (b.toNat : Int) with
   | none => rw [h1, h2, h3] at h; simp at h
   | some i =>
    rw [h1, h2, h3] at h;simp only [Bool.and_eq_true, Bool.or_eq_true, decide_eq_true_eq, beq_iff_eq, bne_iff_ne] at h;obtain ⟨⟨⟨q1, q2⟩, q3⟩, q4⟩ := h;subst q1;refine ⟨rfl, rfl, rfl, q2, q3, fun q => ?_⟩;simp only [Option.getD_some] at q ⊢;rcases q4 with q4 | q4
    ·omega
    ·exact q4
def keysE (x : List UInt8) : List UInt8 × Int := if (x.length : Int) > 60 then ([], 2) else if x.all (fun b => keyN b != 0) = true then (bytesStr (x.map keyN), 0) else ([], 3)
theorem keys_loop {S : Type} {step : List Int × Int → Option ((List Int × Int) ⊕ ((List Int) ⊕ S))} (x : List UInt8) (enc : Nat → List Int) (er : S)
  (h : ∀ (i : Nat) (hi : i < x.length), step (enc i, (i : Int)) = some (if keyN x[i] = 0 then .inr (.inr er) else .inl (enc (i + 1), ((i + 1 : Nat) : Int)))) (hend : step (enc x.length, (x.length : Int)) = some (.inr (.inl (enc x.length)))) :
  loopO step (enc 0, 0) = some (if x.all (fun b => keyN b != 0) = true then .inl (enc x.length) else .inr er) := by
 have key : ∀ d i, i + d = x.length → loopO step (enc i, (i : Int)) = some (if (x.drop i).all (fun b => keyN b != 0) = true then .inl (enc x.length) else .inr er) := by
  intro d;induction d with
  | zero =>
   intro i hi;obtain rfl : i = x.length := by omega
   rw [loopO_eq, hend]; simp
  | succ d ih =>
   intro i hi;have hlt : i < x.length := by omega
   rw [loopO_eq, h i hlt, List.drop_eq_getElem_cons hlt];by_cases e : keyN x[i] = 0
   ·simp only [e, if_true, List.all_cons, bne_self_eq_false, Bool.false_and, Bool.false_eq_true, if_false]
   ·have e' : (keyN x[i] != 0) = true := by simpa using e
    simp only [e, if_false, List.all_cons, e', Bool.true_and];exact ih (i + 1) (by omega)
 have := key x.length 0 (by omega)
 simpa using this
theorem strInts_len (x : List UInt8) : (strInts x).length = x.length := by simp [strInts]
theorem keys_of (x : List UInt8) : uF30a x = some (keysE x) := by
 unfold uF30a keysE;by_cases hl : (x.length : Int) > 60
 ·rw [if_pos hl]; simp only [decide_eq_true hl, cond_true, bnd]
 ·have hs : strBytes x = some (strInts x) := by simp [strBytes]; omega
  rw [if_neg hl];simp only [decide_eq_false hl, cond_false, bnd, hs, Option.bind_some];have h := keys_loop (step := fun s : List Int × Int => uF30 (strInts x) s.1 s.2) x (fun i => (x.take i).map keyN) (([] : List UInt8), (3 : Int)) (fun i hi => by
   have hd : decide ((i : Int) < ((strInts x).length : Int)) = true := decide_eq_true (by rw [strInts_len]; omega);have hx : idx (strInts x) (i : Int) = some (x[i].toNat : Int) := by rw [idx_nat]; simp [strInts, hi]
   obtain ⟨_, k2, _, k4, k5, _⟩ := key_is x[i];simp only [uF30, hd, cond_true, hx, Option.bind_some, k2, bnd, w64 (n := (i : Int) + 1) (by omega) (by omega)];by_cases e : keyN x[i] = 0
   ·simp [e]
   ·have e' : (keyN x[i] == 0) = false := by simpa using e
    have ha : app 1 ((x.take i).map keyN) [keyN x[i]] = some ((x.take (i + 1)).map keyN) := by
     rw [app_of (by simp; omega) (by simp; omega), List.take_succ_eq_append_getElem hi, List.map_append]; rfl
    simp only [e', cond_false, ha, Option.bind_some, e, if_false]; rfl) (by simp [uF30, strInts_len])
  have h : loopO (fun s : List Int × Int => uF30 (strInts x) s.1 s.2) (([] : List Int), (0 : Int)) = _ := h;rw [h];by_cases hk : x.all (fun b => keyN b != 0) = true
  ·rw [if_pos hk, if_pos hk]; simp [lret]
  ·rw [if_neg hk, if_neg hk]; rfl
theorem keys_is (x : List UInt8) : uF29a x = some (keysE x) := by
 unfold uF29a keysE;by_cases hl : (x.length : Int) > 60
 ·rw [if_pos hl]; simp only [decide_eq_true hl, cond_true, bnd]
 ·have hm : mkN 1 (x.length : Int) (0 : Int) = some (List.replicate x.length 0) := by
   rw [mkN_of (by omega) (by simp; omega) (by omega)]; simp
  rw [if_neg hl];simp only [decide_eq_false hl, cond_false, bnd, hm, Option.bind_some];have h := keys_loop (step := fun s : List Int × Int => uF29 x (List.replicate x.length 0) s.1 s.2) x (fun i => newk keyN 0 x i) (([] : List UInt8), (3 : Int)) (fun i hi => by
   have hd : decide ((i : Int) < ((List.replicate x.length (0 : Int)).length : Int)) = true := decide_eq_true (by simp; omega);obtain ⟨k1, _, _, k4, k5, _⟩ := key_is x[i];have hset : (newk keyN 0 x i).set (Int.toNat (i : Int)) (keyN x[i]) = newk keyN 0 x (i + 1) := newk_set keyN 0 x i hi;have hget : idx (newk keyN 0 x (i + 1)) (i : Int) = some (keyN x[i]) := by
    rw [← hset, idx_nat];simp [newk_length keyN 0 x i (by omega), hi]
   simp only [uF29, hd, cond_true, idx_at hi, Option.bind_some, k1, newk_idx keyN 0 x i hi, bnd, hset, hget, w64 (n := (i : Int) + 1) (by omega) (by omega)];by_cases e : keyN x[i] = 0
   ·simp [e]
   ·have e' : (keyN x[i] == 0) = false := by simpa using e
    simp only [e', cond_false, e, if_false]; rfl) (by simp [uF29])
  rw [newk_zero] at h;rw [h];by_cases hk : x.all (fun b => keyN b != 0) = true
  ·rw [if_pos hk, if_pos hk]; simp [lret, newk_all]
  ·rw [if_neg hk, if_neg hk]; rfl
/- Reading what somebody writes. -/
theorem read_step (x : List UInt8) (s : List Int × Int) : uF32 x s.1 s.2 = uF36 (strInts x) s.1 s.2 := by
 obtain ⟨w, i⟩ := s;unfold uF32 uF36;simp only [strInts_len];cases decide (i < (x.length : Int))
 ·rfl
 ·simp only [cond_true]
  have hx : idx (strInts x) i = (idx x i).map fun b => (b.toNat : Int) := by
   unfold idx strInts; split <;> simp
  rw [hx];cases idx x i with
  | none => rfl
  | some b =>
   obtain ⟨k1, k2, k3, k4, k5, k6⟩ := key_is b;rw [show ([32, 45, 46, 47, 40, 41] : List UInt8) = seps from rfl];simp only [Option.bind_some, Option.map_some, k1, k2, k3, bnd];by_cases hs : 0 ≤ sepN b
   ·obtain ⟨e1, e2⟩ := k6 hs
    have e3 : ((b.toNat : Int) == 43) = false := by simp; omega
    simp only [decide_eq_true (show sepN b ≥ 0 from hs), cond_true, e1, bne_self_eq_false, cond_false, e3, Bool.false_and, decide_eq_false (show ¬ sepN b < 0 by omega)]
   ·simp only [decide_eq_false (show ¬ sepN b ≥ 0 from hs), cond_false, decide_eq_true (show sepN b < 0 by omega), cond_true]
    by_cases hk : keyN b = 0
    ·simp only [hk, bne_self_eq_false, cond_false, show decide ((0 : Int) > 0) = false from rfl]
     by_cases h43 : (b.toNat : Int) = 43
     ·rw [h43]
     ·have q43 : ((b.toNat : Int) == 43) = false := by rw [beq_eq_false_iff_ne]; exact h43
      simp only [q43, Bool.false_and, cond_false]
    ·have e1 : decide (keyN b > 0) = true := decide_eq_true (by omega)
     have e2 : (keyN b != 0) = true := by simpa using hk
     simp only [e1, e2, cond_true]
theorem read_loop (x : List UInt8) (hx : x.length ≤ 1000) : ∃ e, loopO (fun s : List Int × Int => uF32 x s.1 s.2) (([] : List Int), (0 : Int)) = some e ∧ ((∃ l, e = .inl l ∧ l.length ≤ 1000) ∨ e = .inr ([], 9)) := by
 obtain ⟨e, e1, e2⟩ := loopO_ind (step := fun s : List Int × Int => uF32 x s.1 s.2) (fun s => 0 ≤ s.2 ∧ s.2 ≤ x.length ∧ (s.1.length : Int) ≤ s.2) (fun e => (∃ l, e = .inl l ∧ l.length ≤ 1000) ∨ e = .inr ([], 9)) (fun s => (x.length - s.2).toNat) (by
  rintro ⟨w, i⟩ ⟨g1, g2, g3⟩;simp only [] at g1 g2 g3;unfold uF32;by_cases hlt : i < x.length
  ·obtain ⟨b, hb, _⟩ := idx_of g1 hlt
   obtain ⟨k1, _, k3, k4, k5, k6⟩ := key_is b;rw [show ([32, 45, 46, 47, 40, 41] : List UInt8) = seps from rfl];simp only [decide_eq_true hlt, cond_true, hb, Option.bind_some, k1, k3, bnd, w64 (n := i + 1) (by omega) (by omega)];have ha : ∀ k : Int, app 1 w [k] = some (w ++ [k]) := fun k => app_of (by simp; omega) (by simp; omega);cases decide (sepN b ≥ 0)
   ·simp only [cond_false, ha, Option.bind_some]
    cases decide (keyN b > 0)
    ·simp only [cond_false]
     cases ((b.toNat : Int) == 43) && ((w.length : Int) == 0)
     ·exact .inl ⟨_, rfl, .inr rfl⟩
     ·exact .inr ⟨_, rfl, ⟨by simp only []; omega, by simp only []; omega, by simp only [List.length_append, List.length_cons, List.length_nil]; omega⟩, by simp only []; omega⟩
    ·exact .inr ⟨_, rfl, ⟨by simp only []; omega, by simp only []; omega, by simp only [List.length_append, List.length_cons, List.length_nil]; omega⟩, by simp only []; omega⟩
   ·exact .inr ⟨_, rfl, ⟨by simp only []; omega, by simp only []; omega, by simp only []; omega⟩, by simp only []; omega⟩
  ·simp only [decide_eq_false hlt, cond_false]
   exact .inl ⟨_, rfl, .inl ⟨w, rfl, by omega⟩⟩) ([], 0) ⟨by simp, by simp, by simp⟩
 exact ⟨e, e1, e2⟩
def groupsE (s : List UInt8) : List UInt8 := if 4 < s.length then s.take 3 ++ 45 :: groupsE (s.drop 3) else s
termination_by s.length
decreasing_by simp; omega
theorem groups_len (s : List UInt8) : (groupsE s).length ≤ 2 * s.length := by
 induction hn : s.length using Nat.strongRecOn generalizing s with
 | _ n ih =>
  unfold groupsE;split
  ·have := ih (s.drop 3).length (by simp; omega) (s.drop 3) rfl
   simp only [List.length_append, List.length_take, List.length_cons, List.length_drop] at this ⊢;omega
  ·omega
theorem groups_loop {step : List UInt8 × List UInt8 → Option ((List UInt8 × List UInt8) ⊕ (List UInt8 × List UInt8))} (h1 : ∀ s o : List UInt8, 4 < s.length → s.length + o.length ≤ 100000 → step (s, o) = some (.inl (s.drop 3, o ++ (s.take 3 ++ [45])))) (h2 : ∀ s o : List UInt8, ¬ 4 < s.length → step (s, o) = some (.inr (s, o))) :
  ∀ (s o : List UInt8), 2 * s.length + o.length ≤ 100000 → ∃ s' o', loopO step (s, o) = some (s', o') ∧ o' ++ s' = o ++ groupsE s := by
 intro s;induction hn : s.length using Nat.strongRecOn generalizing s with
 | _ n ih =>
  intro o ho;by_cases hl : 4 < s.length
  ·obtain ⟨s', o', e1, e2⟩ := ih (s.drop 3).length (by simp; omega) (s.drop 3) rfl (o ++ (s.take 3 ++ [45])) (by simp; omega)
   refine ⟨s', o', by rw [loopO_eq, h1 s o hl (by omega)]; exact e1, ?_⟩;rw [e2];conv => rhs; rw [groupsE]
   simp [hl]
  ·refine ⟨s, o, by rw [loopO_eq, h2 s o hl], ?_⟩
   rw [groupsE]; simp [hl]
theorem sub3 {s : List UInt8} (h : 4 < s.length) : sub s 0 3 = some (s.take 3) ∧ sub s 3 (s.length : Int) = some (s.drop 3) := by
 constructor
 ·exact sub_take (l := s) (k := 3) (by omega)
 ·exact sub_drop (l := s) (k := 3) (by omega)
theorem groups_ref (s : List UInt8) (hs : s.length ≤ 1000) : uF104 s = some (groupsE s) := by
 have hl := groups_len s;obtain ⟨s', o', e1, e2⟩ := groups_loop (step := fun s : List UInt8 × List UInt8 => uF104a s.1 s.2) (fun s o h h' => by
  obtain ⟨q1, q2⟩ := sub3 h;simp only [uF104a, decide_eq_true (show (s.length : Int) > 4 by omega), cond_true, q1, q2, Option.bind_some, sadd_of (show (s.take 3).length + [45].length ≤ 4611686018427387904 by simp; omega), sadd_of (show o.length + (s.take 3 ++ [45]).length ≤ 4611686018427387904 by simp; omega)]) (fun s o h => by
  simp only [uF104a, decide_eq_false (show ¬ (s.length : Int) > 4 by omega), cond_false]) s [] (by simp; omega)
 have hlen : o'.length + s'.length = (groupsE s).length := by rw [← List.length_append, e2]; simp
 unfold uF104;simp only [bnd, e1, Option.bind_some, sadd_of (show o'.length + s'.length ≤ 4611686018427387904 by omega), e2, List.nil_append]
def fmtE (c : uT1) (x : uT4) : List UInt8 := (if (x.Country == c.Code) = true then 40 :: (c.Trunk ++ (x.Area ++ [41, 32])) else 43 :: (x.Country ++ 32 :: (x.Area ++ [32]))) ++ groupsE x.Rest
theorem parts_len {p : List uT1} (hp : GoodP p) (n : List UInt8) (hn : n.length ≤ 1000) : (splitE p n).1.Country.length ≤ 100000 ∧ (splitE p n).1.Area.length ≤ 100000 ∧ (splitE p n).1.Rest.length ≤ 1000 := by
 unfold splitE;cases formB n
 ·exact ⟨by simp [noParts], by simp [noParts], by simp [noParts]⟩
 ·simp only [Bool.not_true, cond_false]
  cases hf : p.find? (fun c => hpB (n.drop 1) c.Code) with
  | none => exact ⟨by simp [noParts], by simp [noParts], by simp [noParts]⟩
  | some c =>
   have hc := hp.2 c (List.mem_of_find?_eq_some hf);cases hg : c.Areas.find? (fun a => hpB (n.drop (1 + c.Code.length)) a.Prefix) with
   | none => simp only [hg]; exact ⟨by simp [noParts], by simp [noParts], by simp [noParts]⟩
   | some a =>
    have ha := hc.2.2.2.2 a (List.mem_of_find?_eq_some hg);have hga : GoodA a := ha;simp only [hg, areaR];cases decide (((n.drop (1 + c.Code.length)).length : Int) < a.Low) || decide (((n.drop (1 + c.Code.length)).length : Int) > a.High)
    ·exact ⟨hc.1, hga.1, by simp; omega⟩
    ·exact ⟨by simp [noParts], by simp [noParts], by simp [noParts]⟩
def faultE (p : List uT1) (h : uT3) : Int := if planE p = 0 then (homeR p h).2.2 else planE p
theorem open_ok {p : List uT1} {h : uT3} (hf : faultE p h = 0) : planE p = 0 ∧ ∃ c a, homeR p h = (c, a, 0) ∧ p.find? (fun c => c.Code == h.Country) = some c := by
 unfold faultE at hf;split at hf
 ·rename_i h0
  refine ⟨h0, ?_⟩;unfold homeR at hf ⊢;cases hq : p.find? (fun c => c.Code == h.Country) with
  | none => rw [hq] at hf; simp at hf
  | some c =>
   rw [hq] at hf;simp only [] at hf ⊢;split at hf
   ·rename_i e; rw [if_pos e]; exact ⟨c, noA, rfl, rfl⟩
   ·rename_i e; rw [if_neg e]
    cases hg : c.Areas.find? (fun a => a.Prefix == h.Area) with
    | none => rw [hg] at hf; simp at hf
    | some a => exact ⟨c, a, rfl, rfl⟩
 ·rename_i h0; exact absurd hf h0
theorem open_bad {p : List uT1} (hp : GoodP p) {h : uT3} (hf : faultE p h ≠ 0) : ∃ c a, uF90 p h = some (c, a, faultE p h) := by
 rw [open_is hp];unfold faultE at hf ⊢;split
 ·exact ⟨_, _, rfl⟩
 ·exact ⟨_, _, rfl⟩
theorem form_bad {p : List uT1} (hp : GoodP p) {h : uT3} (hf : faultE p h ≠ 0) (n t : List UInt8) : uF31 p h n = some ([], faultE p h) ∧ uF32a p h t = some ([], faultE p h) := by
 obtain ⟨c, a, e⟩ := open_bad hp hf;have hne : (faultE p h != 0) = true := by simpa using hf
 constructor
 ·unfold uF31
  simp only [bnd, e, Option.bind_some, hne, cond_true]
 ·unfold uF32a
  simp only [bnd, e, Option.bind_some, hne, cond_true]
theorem form_ok {p : List uT1} (hp : GoodP p) {h : uT3} {c : uT1} {a : uT2} (h0 : planE p = 0) (hr : homeR p h = (c, a, 0)) (hc : GoodC c) (n : List UInt8) (hn : n.length ≤ 1000) :
  uF31 p h n = some (if (splitE p n).2 = 0 then (fmtE c (splitE p n).1, 0) else ([], (splitE p n).2)) := by
 obtain ⟨x, e1, e2⟩ := split_is hp n (by omega);obtain ⟨l1, l2, l3⟩ := parts_len hp n hn;have c3 := hc.2.2.1;have e3 : x.2 = (splitE p n).2 := by rw [← e2]
 have e4 : x.1.Parts = (splitE p n).1 := by rw [← e2]
 unfold uF31;simp only [bnd, open_is hp, h0, if_true, hr, Option.bind_some, bne_self_eq_false, cond_false, e1, e3, e4];by_cases hx : (splitE p n).2 = 0
 ·generalize (splitE p n).1 = y at l1 l2 l3
  have s1 : sadd [40] c.Trunk = some (40 :: c.Trunk) := sadd_of (by simp; omega);have s2 : sadd (40 :: c.Trunk) y.Area = some (40 :: c.Trunk ++ y.Area) := sadd_of (by simp; omega);have s3 : sadd (40 :: c.Trunk ++ y.Area) [41, 32] = some (40 :: (c.Trunk ++ (y.Area ++ [41, 32]))) := by rw [sadd_of (by simp; omega)]; simp
  have s4 : sadd [43] y.Country = some (43 :: y.Country) := sadd_of (by simp; omega);have s5 : sadd (43 :: y.Country) [32] = some (43 :: y.Country ++ [32]) := sadd_of (by simp; omega);have s6 : sadd (43 :: y.Country ++ [32]) y.Area = some (43 :: y.Country ++ [32] ++ y.Area) := sadd_of (by simp; omega);have s7 : sadd (43 :: y.Country ++ [32] ++ y.Area) [32] = some (43 :: (y.Country ++ 32 :: (y.Area ++ [32]))) := by rw [sadd_of (by simp; omega)]; simp
  have hb : (bif (!(y.Country == c.Code)) then ((sadd [43] y.Country).bind fun y70 => (sadd y70 [32]).bind fun y72 => (sadd y72 y.Area).bind fun y74 => (sadd y74 [32]).bind fun y76 => some y76) else some (40 :: (c.Trunk ++ (y.Area ++ [41, 32])))) =
    some (if (y.Country == c.Code) = true then 40 :: (c.Trunk ++ (y.Area ++ [41, 32])) else 43 :: (y.Country ++ 32 :: (y.Area ++ [32]))) := by
   cases y.Country == c.Code
   ·simp only [Bool.not_false, cond_true, s4, s5, s6, s7, Option.bind_some, Bool.false_eq_true, if_false]
   ·simp only [Bool.not_true, cond_false, if_true]
  simp only [hx, bne_self_eq_false, cond_false, s1, s2, s3, Option.bind_some, hb, if_true, fmtE];have hlen : (if (y.Country == c.Code) = true then 40 :: (c.Trunk ++ (y.Area ++ [41, 32])) else 43 :: (y.Country ++ 32 :: (y.Area ++ [32]))).length ≤ 300000 := by
   split <;> simp <;> omega
  generalize (if (y.Country == c.Code) = true then 40 :: (c.Trunk ++ (y.Area ++ [41, 32])) else 43 :: (y.Country ++ 32 :: (y.Area ++ [32]))) = hd at hlen;have hgl := groups_len y.Rest
  -- the loop has the rest behind what is written
  have key : ∀ (s o : List UInt8), 2 * s.length + o.length ≤ 1000000 → ∃ s' o', loopO (fun s : List UInt8 × List UInt8 => uF31a s.1 s.2) (o, s) = some (o', s') ∧ o' ++ s' = o ++ groupsE s := by
   intro s;induction hn : s.length using Nat.strongRecOn generalizing s with
   | _ n ih =>
    intro o ho;by_cases hl : 4 < s.length
    ·obtain ⟨s', o', e1, e2⟩ := ih (s.drop 3).length (by simp; omega) (s.drop 3) rfl (o ++ (s.take 3 ++ [45])) (by simp; omega)
     obtain ⟨q1, q2⟩ := sub3 hl;refine ⟨s', o', ?_, ?_⟩
     ·rw [loopO_eq]
      simp only [uF31a, decide_eq_true (show (s.length : Int) > 4 by omega), cond_true, q1, q2, Option.bind_some, sadd_of (show (s.take 3).length + [45].length ≤ 4611686018427387904 by simp; omega), sadd_of (show o.length + (s.take 3 ++ [45]).length ≤ 4611686018427387904 by simp; omega)];exact e1
     ·rw [e2]
      conv => rhs; rw [groupsE]
      simp [hl]
    ·refine ⟨s, o, ?_, ?_⟩
     ·rw [loopO_eq]
      simp only [uF31a, decide_eq_false (show ¬ (s.length : Int) > 4 by omega), cond_false]
     ·rw [groupsE]; simp [hl]
  obtain ⟨s', o', k1, k2⟩ := key y.Rest hd (by omega);have hlen2 : o'.length + s'.length = hd.length + (groupsE y.Rest).length := by rw [← List.length_append, k2, List.length_append]
  simp only [k1, Option.bind_some, sadd_of (show o'.length + s'.length ≤ 4611686018427387904 by omega), k2]
 ·have hne : ((splitE p n).2 != 0) = true := by simpa using hx
  simp only [hne, cond_true, hx, if_false]
theorem form_ref {p : List uT1} (hp : GoodP p) {h : uT3} {c : uT1} (h0 : planE p = 0) (hf : p.find? (fun c => c.Code == h.Country) = some c) (n : List UInt8) (hn : n.length ≤ 1000) :
  uF38 p h n = some (fmtE c (splitE p n).1) := by
 obtain ⟨l1, l2, l3⟩ := parts_len hp n hn;have hc := hp.2 c (List.mem_of_find?_eq_some hf);have c3 := hc.2.2.1;have hcode : c.Code = h.Country := by have := List.find?_some hf; simpa using this
 have hidx : idx p (idxI (fun c => c.Code == h.Country) p) = some c := by
  rcases idx_find (fun c : uT1 => c.Code == h.Country) p with ⟨i1, i2⟩ | ⟨i1, c', i2, i3, i4, i5⟩
  ·rw [i2] at hf; simp at hf
  ·rw [i3] at hf; rw [i2]; exact hf
 rw [← hcode] at hidx;unfold uF38 fmtE;simp only [bnd, ref_split hp (apart_of h0) n (by omega), Option.bind_some, at_is hp, hidx, ← hcode];generalize (splitE p n).1 = y at l1 l2 l3;have hg := groups_ref y.Rest l3;have hgl := groups_len y.Rest;cases y.Country == c.Code
 ·have s4 : sadd [43] y.Country = some (43 :: y.Country) := sadd_of (by simp; omega)
  have s5 : sadd (43 :: y.Country) [32] = some (43 :: y.Country ++ [32]) := sadd_of (by simp; omega);have s6 : sadd (43 :: y.Country ++ [32]) y.Area = some (43 :: y.Country ++ [32] ++ y.Area) := sadd_of (by simp; omega);have s7 : sadd (43 :: y.Country ++ [32] ++ y.Area) [32] = some (43 :: (y.Country ++ 32 :: (y.Area ++ [32]))) := by rw [sadd_of (by simp; omega)]; simp
  have s8 : sadd (43 :: (y.Country ++ 32 :: (y.Area ++ [32]))) (groupsE y.Rest) = some (43 :: (y.Country ++ 32 :: (y.Area ++ [32])) ++ groupsE y.Rest) := sadd_of (by simp; omega);simp only [Bool.not_false, cond_true, s4, s5, s6, s7, hg, s8, Option.bind_some, Bool.false_eq_true, if_false]
 ·have s1 : sadd [40] c.Trunk = some (40 :: c.Trunk) := sadd_of (by simp; omega)
  have s2 : sadd (40 :: c.Trunk) y.Area = some (40 :: c.Trunk ++ y.Area) := sadd_of (by simp; omega);have s3 : sadd (40 :: c.Trunk ++ y.Area) [41, 32] = some (40 :: (c.Trunk ++ (y.Area ++ [41, 32]))) := by rw [sadd_of (by simp; omega)]; simp
  have s8 : sadd (40 :: (c.Trunk ++ (y.Area ++ [41, 32]))) (groupsE y.Rest) = some (40 :: (c.Trunk ++ (y.Area ++ [41, 32])) ++ groupsE y.Rest) := sadd_of (by simp; omega);simp only [Bool.not_true, cond_false, s1, s2, s3, hg, s8, Option.bind_some, if_true]
def readT (p : List uT1) (c : uT1) (h : uT3) (u : List UInt8) : List UInt8 × Int :=
  bif u == [] then ([], 9) else bif (((u[0]?.getD 0).toNat : Int) == 43) then goE p u else bif decide ((u.length : Int) > 30) then ([], 2) else reachE p c h u
theorem read_ok {p : List uT1} (hp : GoodP p) {h : uT3} {c : uT1} {a : uT2} (h0 : planE p = 0) (hr : homeR p h = (c, a, 0)) (hf : p.find? (fun c => c.Code == h.Country) = some c) (hcc : c.Code.length ≤ 100) (hh : h.Area.length ≤ 100) (t : List UInt8) (ht : t.length ≤ 1000) :
  ∃ r, uF32a p h t = some r ∧ uF36a p h t = some r := by
 have hs : strBytes t = some (strInts t) := by simp [strBytes]; omega
 have hloop : loopO (fun s : List Int × Int => uF36 (strInts t) s.1 s.2) (([] : List Int), (0 : Int)) = loopO (fun s : List Int × Int => uF32 t s.1 s.2) (([] : List Int), (0 : Int)) := by
  congr 1;funext s;exact (read_step t s).symm
 obtain ⟨e, e1, e2⟩ := read_loop t ht;unfold uF32a uF36a;simp only [bnd, open_is hp, h0, if_true, hr, Option.bind_some, bne_self_eq_false, cond_false, hs, hloop, e1];cases decide ((t.length : Int) > 60)
 ·simp only [cond_false]
  rcases e2 with ⟨l, rfl, hl⟩ | rfl
  ·simp only [lret]
   have hul : (bytesStr l).length ≤ 1000 := by simp [bytesStr]; exact hl
   generalize bytesStr l = u at hul;refine ⟨readT p c h u, ?_, ?_⟩
   ·unfold readT
    cases hu : u == []
    ·have hi : idx u 0 = some (u[0]?.getD 0) := by
      cases u with
      | nil => simp at hu
      | cons b u => rfl
     simp only [cond_false, hi, Option.bind_some];cases (((u[0]?.getD 0).toNat : Int) == 43)
     ·simp only [cond_false]
      cases decide ((u.length : Int) > 30)
      ·simp only [cond_false, reach_is hp hcc h hh u hul, Option.bind_some]
      ·rfl
     ·simp only [cond_true]
      exact go_is hp u (by omega)
    ·rfl
   ·unfold readT
    cases hu : u == []
    ·have hi : idx u 0 = some (u[0]?.getD 0) := by
      cases u with
      | nil => simp at hu
      | cons b u => rfl
     simp only [cond_false, hi, Option.bind_some];cases (((u[0]?.getD 0).toNat : Int) == 43)
     ·simp only [cond_false]
      cases decide ((u.length : Int) > 30)
      ·simp only [cond_false, reach_ref hp (apart_of h0) h hf hcc hh u hul, Option.bind_some]
      ·rfl
     ·simp only [cond_true]
      exact go_ref hp (apart_of h0) u (by omega)
    ·rfl
  ·exact ⟨_, rfl, rfl⟩
 ·exact ⟨_, rfl, rfl⟩
theorem home_draw (s : uT0) (k : Int) (hs : SOk s k) (hk : k ≤ 1000) : ∃ s' h, uF26 s = some (s', h) ∧ SOk s' (k + 3) ∧ h.Area.length ≤ 10 := by
 obtain ⟨b, e1⟩ := flip_is s 20 k hs (by omega) (by omega) (by omega);have o1 := hs.one;unfold uF26;simp only [e1, Option.bind_some];cases b
 ·obtain ⟨i, e2, i1, i2⟩ := next_is ⟨s.L, s.at_ + 1⟩ 8 (k + 1) o1 (by omega) (by omega) (by omega)
  obtain ⟨h, eh, hm⟩ := idx_of (l := ([(⟨([52, 57] : List UInt8), ([51, 48] : List UInt8)⟩ : uT3), (⟨([52, 57] : List UInt8), ([51, 48] : List UInt8)⟩ : uT3), (⟨([52, 57] : List UInt8), ([52] : List UInt8)⟩ : uT3), (⟨([52, 57] : List UInt8), ([] : List UInt8)⟩ : uT3), (⟨([49] : List UInt8), ([50, 48] : List UInt8)⟩ : uT3), (⟨([49] : List UInt8), ([] : List UInt8)⟩ : uT3), (⟨([53, 53] : List UInt8), ([49] : List UInt8)⟩ : uT3), (⟨([53, 53] : List UInt8), ([] : List UInt8)⟩ : uT3)] : List uT3)) i1 i2;simp only [cond_false, e2, eh, Option.bind_some];refine ⟨_, h, rfl, o1.one.up (by omega), ?_⟩;simp only [List.mem_cons, List.not_mem_nil, or_false] at hm;rcases hm with rfl | rfl | rfl | rfl | rfl | rfl | rfl | rfl <;> simp
 ·obtain ⟨a, e2, ha⟩ := some_in ⟨s.L, s.at_ + 1⟩ [([52, 57] : List UInt8), ([57] : List UInt8), ([] : List UInt8)] (k + 1) o1 (by omega) (by simp) (by simp)
  obtain ⟨c, e3, hc⟩ := some_in ⟨s.L, s.at_ + 1 + 1⟩ [([50, 48] : List UInt8), ([51] : List UInt8), ([120] : List UInt8)] (k + 1 + 1) o1.one (by omega) (by simp) (by simp);simp only [cond_true, e2, e3, Option.bind_some];exact ⟨_, _, rfl, o1.one.one.up (by omega), small_len (by decide) hc⟩
theorem area_facts {p : List uT1} (h : planE p = 0) {c : uT1} (hc : c ∈ p) {a : uT2} (ha : a ∈ c.Areas) : (a.Prefix.length : Int) < a.Low ∧ a.Low ≤ a.High ∧ a.High ≤ 15 - (c.Code.length : Int) := by
 have h0 : errL (countryE p) 0 p = 0 := by
  unfold planE at h;split at h
  ·simp at h
  ·exact h
 obtain ⟨i, hi⟩ := List.mem_iff_getElem?.1 hc;have h1 := errL_zero h0 i c hi;have h2 : errL (areaE c) 0 c.Areas = 0 := by
  unfold countryE at h1;simp only [] at h1;cases q1 : !digB c.Code 1 3 || (((c.Code[0]?.getD 0).toNat : Int) == 48) with
  | true => rw [q1] at h1; simp at h1
  | false =>
   rw [q1] at h1; simp only [cond_false] at h1;cases q2 : decide (0 < 0 + i) && (Op.bytesLess c.Code (p[0 + i - 1]?.getD c).Code || c.Code == (p[0 + i - 1]?.getD c).Code) with
   | true => rw [q2] at h1; simp at h1
   | false =>
    rw [q2] at h1; simp only [cond_false] at h1;cases q3 : (p.take (0 + i)).any (fun o => hpB c.Code o.Code) with
    | true => rw [q3] at h1; simp at h1
    | false =>
     rw [q3] at h1; simp only [cond_false] at h1;cases q4 : (!digB c.Abroad 1 4 || !digB c.Trunk 0 2) || hpB c.Trunk c.Abroad with
     | true => rw [q4] at h1; simp at h1
     | false =>
      rw [q4] at h1; simp only [cond_false] at h1;cases q5 : decide ((c.Areas.length : Int) > 300) with
      | true => rw [q5] at h1; simp at h1
      | false => rw [q5] at h1; simpa using h1
 obtain ⟨j, hj⟩ := List.mem_iff_getElem?.1 ha;have h3 := errL_zero h2 j a hj;unfold areaE at h3;simp only [] at h3;cases q1 : !digB a.Prefix 1 8 with
 | true => rw [q1] at h3; simp at h3
 | false =>
  rw [q1] at h3; simp only [cond_false] at h3;cases q2 : decide (0 < 0 + j) && (Op.bytesLess a.Prefix (c.Areas[0 + j - 1]?.getD a).Prefix || a.Prefix == (c.Areas[0 + j - 1]?.getD a).Prefix) with
  | true => rw [q2] at h3; simp at h3
  | false =>
   rw [q2] at h3; simp only [cond_false] at h3;cases q3 : (decide (0 < 0 + j) && hpB a.Prefix (c.Areas[0 + j - 1]?.getD a).Prefix) || (hpB (c.Trunk ++ a.Prefix) c.Abroad || hpB c.Abroad (c.Trunk ++ a.Prefix)) with
   | true => rw [q3] at h3; simp at h3
   | false =>
    rw [q3] at h3; simp only [cond_false] at h3;cases q4 : ((decide (a.Low ≤ (a.Prefix.length : Int)) || decide (a.Low > a.High)) || decide (a.High > 15 - (c.Code.length : Int))) || decide (a.Low < 4 - (c.Code.length : Int)) with
    | true => rw [q4] at h3; simp at h3
    | false =>
     simp only [Bool.or_eq_false_iff, decide_eq_false_iff_not] at q4;omega
theorem right_number (s : uT0) (p : List uT1) (k : Int) (hs : SOk s k) (hk : k ≤ 1000) (hp : SmallP p) (h0 : planE p = 0) : ∃ s' n, uF87 s p = some (s', n) ∧ SOk s' (k + 40) ∧ n.length ≤ 100 := by
 have hl : (p.length : Int) = 3 := by have := hp.1; omega
 obtain ⟨i, e3, i1, i2⟩ := next_is s p.length k hs (by omega) (by omega) (by omega);have o2 := hs.one;obtain ⟨c, ec, hc⟩ := idx_of (l := p) i1 i2;obtain ⟨c1, c2, c3, c4, c5⟩ := hp.2 c hc;obtain ⟨j, e4, j1, j2⟩ := next_is ⟨s.L, s.at_ + 1⟩ c.Areas.length (k + 1) o2 (by omega) (by omega) (by omega);have o3 := o2.one;obtain ⟨a, ea, ha⟩ := idx_of (l := c.Areas) j1 j2;obtain ⟨a1, a2, a3, a4, a5⟩ := c5 a ha;obtain ⟨f1, f2, f3⟩ := area_facts h0 hc ha;have hs1 : sadd [43] c.Code = some (43 :: c.Code) := sadd_of (by simp; omega);have hs2 : sadd (43 :: c.Code) a.Prefix = some (43 :: c.Code ++ a.Prefix) := sadd_of (by simp; omega);unfold uF87;simp only [bnd, e3, ec, e4, ea, Option.bind_some, hs1, hs2];obtain ⟨t, r, e5, o4, r1, r2⟩ := range_w ⟨s.L, s.at_ + 1 + 1⟩ a.Low a.High _ o3 (by omega) (by omega) (by omega) (by omega);simp only [e5, Option.bind_some];rw [w64 (n := r - (a.Prefix.length : Int)) (by omega) (by omega)];obtain ⟨t', d, e7, o6, hd⟩ := row_is (r - (a.Prefix.length : Int)) t _ (by omega) (by omega) o4 (by omega);have hs3 : sadd (43 :: c.Code ++ a.Prefix) d = some (43 :: c.Code ++ a.Prefix ++ d) := sadd_of (by simp; omega);simp only [e7, hs3, Option.bind_some];exact ⟨_, _, rfl, o6.up (by omega), by simp; omega⟩
theorem changed_is (s : uT0) (x : List UInt8) (k : Int) (hs : SOk s k) (hk : k ≤ 1000) (hx : x.length ≤ 500) : ∃ s' y, uF52 s x [48, 45, 46, 32, 40, 41, 43, 97, 90] = some (s', y) ∧ SOk s' (k + 3) ∧ y.length ≤ x.length + 9 := by
 unfold uF52;simp only [bnd];cases hxe : (x == []) with
 | true =>
  refine ⟨s, _, rfl, hs.up (by omega), by simp⟩
 | false =>
  have hx0 : 1 ≤ x.length := by
   cases x with
   | nil => simp at hxe
   | cons a x => simp
  obtain ⟨i, e1, i1, i2⟩ := next_is s x.length k hs (by omega) (by omega) (by omega);obtain ⟨j, e2, j1, j2⟩ := next_is ⟨s.L, s.at_ + 1⟩ 9 (k + 1) hs.one (by omega) (by omega) (by omega);obtain ⟨w, e3, w1, w2⟩ := next_is ⟨s.L, s.at_ + 1 + 1⟩ 3 (k + 1 + 1) hs.one.one (by omega) (by omega) (by omega);obtain ⟨b, eb, hb⟩ := idx_of (l := ([48, 45, 46, 32, 40, 41, 43, 97, 90] : List UInt8)) j1 j2;have hr : (runeStr (IntKind.wrap .i32 (b.toNat : Int))).length ≤ 9 := by
   simp only [List.mem_cons, List.not_mem_nil, or_false] at hb;rcases hb with rfl | rfl | rfl | rfl | rfl | rfl | rfl | rfl | rfl <;> decide +kernel
  obtain ⟨u, hu⟩ : ∃ u, runeStr (IntKind.wrap .i32 (b.toNat : Int)) = u := ⟨_, rfl⟩;rw [hu] at hr;have hz : (([48, 45, 46, 32, 40, 41, 43, 97, 90] : List UInt8) == []) = false := rfl;obtain ⟨n, rfl⟩ := Int.eq_ofNat_of_zero_le i1;have hn : n < x.length := by omega
  have q1 : sub x 0 (n : Int) = some (x.take n) := sub_take (by omega);have q2 : sub x (n : Int) (x.length : Int) = some (x.drop n) := sub_drop (by omega);have q3 : sub x (IntKind.wrap .i64 ((n : Int) + 1)) (x.length : Int) = some (x.drop (n + 1)) := by
   rw [w64 (by omega) (by omega), show ((n : Int) + 1) = ((n + 1 : Nat) : Int) from by omega];exact sub_drop (by omega)
  have t1 : (x.take n).length = n := by simp; omega
  have q4 : sadd (x.take n) u = some (x.take n ++ u) := sadd_of (by omega);have q5 : sadd (x.take n ++ u) (x.drop (n + 1)) = some (x.take n ++ u ++ x.drop (n + 1)) := sadd_of (by simp; omega);have q6 : sadd (x.take n ++ u) (x.drop n) = some (x.take n ++ u ++ x.drop n) := sadd_of (by simp; omega);have q7 : sadd (x.take n) (x.drop (n + 1)) = some (x.take n ++ x.drop (n + 1)) := sadd_of (by simp; omega);have e2' : uF63 ⟨s.L, s.at_ + 1⟩ ((([48, 45, 46, 32, 40, 41, 43, 97, 90] : List UInt8).length : Nat) : Int) = some (⟨s.L, s.at_ + 1 + 1⟩, j) := e2;have o3 := hs.one.one.one;simp only [hz, Bool.or_self, cond_false, e1, e2', eb, e3, hu, Option.bind_some, q1, q2, q3, q4, q5, q6, q7];cases w == 0
  ·simp only [cond_false]
   cases w == 1
   ·exact ⟨_, _, rfl, o3.up (by omega), by simp; omega⟩
   ·exact ⟨_, _, rfl, o3.up (by omega), by simp; omega⟩
  ·exact ⟨_, _, rfl, o3.up (by omega), by simp; omega⟩
theorem fmt_len {p : List uT1} (hp : SmallP p) {c : uT1} (hc : c ∈ p) (n : List UInt8) (hn : n.length ≤ 100) : (fmtE c (splitE p n).1).length ≤ 260 := by
 have hsm := hp.2;have hl : (splitE p n).1.Country.length ≤ 10 ∧ (splitE p n).1.Area.length ≤ 10 ∧ (splitE p n).1.Rest.length ≤ 100 := by
  unfold splitE;cases formB n
  ·exact ⟨by simp [noParts], by simp [noParts], by simp [noParts]⟩
  ·simp only [Bool.not_true, cond_false]
   cases hf : p.find? (fun c => hpB (n.drop 1) c.Code) with
   | none => exact ⟨by simp [noParts], by simp [noParts], by simp [noParts]⟩
   | some c =>
    obtain ⟨d1, _, _, _, d5⟩ := hsm c (List.mem_of_find?_eq_some hf);cases hg : c.Areas.find? (fun a => hpB (n.drop (1 + c.Code.length)) a.Prefix) with
    | none => simp only [hg]; exact ⟨by simp [noParts], by simp [noParts], by simp [noParts]⟩
    | some a =>
     have ha := (d5 a (List.mem_of_find?_eq_some hg)).1;simp only [hg, areaR];cases decide (((n.drop (1 + c.Code.length)).length : Int) < a.Low) || decide (((n.drop (1 + c.Code.length)).length : Int) > a.High)
     ·exact ⟨d1, ha, by simp; omega⟩
     ·exact ⟨by simp [noParts], by simp [noParts], by simp [noParts]⟩
 obtain ⟨l1, l2, l3⟩ := hl;have c3 := (hsm c hc).2.2.1
 have := groups_len (splitE p n).1.Rest
 unfold fmtE;split <;> simp <;> omega
theorem form_string (s : uT0) (p : List uT1) (h : uT3) (k : Int) (hs : SOk s k) (hk : k ≤ 500) (hp : SmallP p) : ∃ s' t, uF28a s p h = some (s', t) ∧ t.length ≤ 1000 := by
 have hg := hp.good;obtain ⟨b, e1⟩ := flip_is s 3 k hs (by omega) (by omega) (by omega);have o1 := hs.one;unfold uF28a;simp only [bnd, e1, Option.bind_some, plan_fault hg, fault_home hg];have hcond : ((bif b then some true else some (planE p != 0)).bind fun y32 => (bif y32 then some true else some ((homeR p h).2.2 != 0)).bind fun y50 => some y50) = some (b || (faultE p h != 0)) := by
  unfold faultE;cases b
  ·by_cases hz : planE p = 0
   ·simp [hz]
   ·have : (planE p != 0) = true := by simpa using hz
    simp [this, hz]
  ·rfl
 obtain ⟨y32, h32, hcond⟩ := obind hcond;obtain ⟨y50, h50, hcond⟩ := obind hcond;have hcond := Option.some.inj hcond;subst hcond;simp only [h32, h50, Option.bind_some];cases hb : b || (faultE p h != 0)
 ·simp only [cond_false]
  rw [Bool.or_eq_false_iff] at hb;have hf : faultE p h = 0 := by simpa using hb.2
  obtain ⟨h0, c, a, hr, hfind⟩ := open_ok hf;obtain ⟨s2, n, e2, o2, hn⟩ := right_number ⟨s.L, s.at_ + 1⟩ p _ o1 (by omega) hp h0;obtain ⟨m, e3, hm⟩ := pick_in s2 [0, 0, 1] _ o2 (by omega) (by simp) (by simp);have o3 := o2.one;have hlen := fmt_len hp (List.mem_of_find?_eq_some hfind) n hn;simp only [e2, form_ref hg h0 hfind n (by omega), e3, Option.bind_some];generalize fmtE c (splitE p n).1 = t0 at hlen;have hm' : 0 ≤ m ∧ m ≤ 1 := by
   simp only [List.mem_cons, List.not_mem_nil, or_false] at hm;omega
  obtain ⟨e, e4, e5⟩ := loopO_ind (step := fun s : List UInt8 × Int × uT0 => uF28 (⟨s2.L, s2.at_ + 1⟩, m) s.1 s.2.1 s.2.2)
   (fun q => 0 ≤ q.2.1 ∧ q.2.1 ≤ 1 ∧ (q.1.length : Int) ≤ 260 + 9 * q.2.1 ∧ SOk q.2.2 (k + 1 + 40 + 1 + 3 * q.2.1)) (fun e => e.1.length ≤ 1000) (fun q => (m - q.2.1).toNat) (by
    rintro ⟨t, i, z⟩ ⟨g1, g2, g3, g4⟩;simp only [] at g1 g2 g3 g4;by_cases hi : i < m
    ·obtain ⟨z', y, ey, oz, hy⟩ := changed_is z t _ g4 (by omega) (by omega)
     refine .inr ⟨(y, i + 1, z'), ?_, ⟨by simp only []; omega, by simp only []; omega, by simp only []; omega, ?_⟩, by simp only []; omega⟩
     ·simp only [uF28, decide_eq_true hi, cond_true, ey, Option.bind_some, w64 (n := i + 1) (by omega) (by omega)]
     ·exact oz.up (by simp only []; omega)
    ·exact .inl ⟨(t, z), by simp only [uF28, decide_eq_false hi, cond_false], by simp only []; omega⟩) (t0, 0, ⟨s2.L, s2.at_ + 1⟩) ⟨by simp, by simp, by simp; omega, o3.up (by simp only []; omega)⟩
  have e4 : loopO (fun s : List UInt8 × Int × uT0 => uF28 (⟨s2.L, s2.at_ + 1⟩, m) s.1 s.2.1 s.2.2) (t0, (0 : Int), ⟨s2.L, s2.at_ + 1⟩) = some e := e4;simp only [e4, Option.bind_some];exact ⟨_, _, rfl, e5⟩
 ·simp only [cond_true]
  have r1 : uF86 [49] 60 = some (Lib.repeatL [49] 60) := by simp [uF86]
  have r2 : uF86 [49] 61 = some (Lib.repeatL [49] 61) := by simp [uF86]
  simp only [r1, r2, Option.bind_some];obtain ⟨r, er, hr⟩ := some_in ⟨s.L, s.at_ + 1⟩ [([] : List UInt8), [43], [40, 48, 51, 48, 41, 32, 49, 50, 45, 51, 52, 53], [48, 51, 48, 47, 49, 50, 32, 51, 52, 53], [43, 52, 57, 32, 40, 51, 48, 41, 32, 49, 50, 51], [48, 32, 51, 48, 32, 65, 66, 67], [49, 45, 50, 48, 45, 65, 66, 67], [43, 49, 32, 50, 48, 32, 49, 43, 43], [48, 43, 51, 48, 49], [48, 46, 51, 46, 48, 46, 49], Lib.repeatL [49] 60, Lib.repeatL [49] 61, [195, 169], [48, 45, 90, 45, 122]] _ o1 (by omega) (by simp) (by simp);have hlen : r.length ≤ 1000 := by
   have := List.all_eq_true.1 (show ([([] : List UInt8), [43], [40, 48, 51, 48, 41, 32, 49, 50, 45, 51, 52, 53], [48, 51, 48, 47, 49, 50, 32, 51, 52, 53], [43, 52, 57, 32, 40, 51, 48, 41, 32, 49, 50, 51], [48, 32, 51, 48, 32, 65, 66, 67], [49, 45, 50, 48, 45, 65, 66, 67], [43, 49, 32, 50, 48, 32, 49, 43, 43], [48, 43, 51, 48, 49], [48, 46, 51, 46, 48, 46, 49], Lib.repeatL [49] 60, Lib.repeatL [49] 61, [195, 169], [48, 45, 90, 45, 122]].all fun x => decide (x.length ≤ 1000)) = true by decide +kernel) r hr
   simpa using this
  simp only [er, Option.bind_some];exact ⟨_, _, rfl, hlen⟩
theorem law_FormsRead (l : List Int) (hl : l.length ≤ 4611686018427387904) : uF4 l = some true := by
 obtain ⟨s1, p, e1, o1, hp⟩ := countries_is ⟨l, 0⟩ 0 ⟨hl, by simp, by simp⟩ (by omega);obtain ⟨s2, h, e2, o2, hh⟩ := home_draw s1 _ o1 (by omega);obtain ⟨s3, n, e3, o3, hn⟩ := number_is s2 p _ o2 (by omega) hp;obtain ⟨s4, t, e4, ht⟩ := form_string s3 p h _ o3 (by omega) hp;have hg := hp.good;unfold uF4;simp only [e1, e2, e3, e4, Option.bind_some, keys_is, keys_of, bne_self_eq_false, beq_self_eq_true, Bool.not_true, Bool.or_self, cond_false, plan_fault hg];have hfault : (bif planE p == 0 then ((uF34 p h).bind fun y113 => some y113) else some (planE p)) = some (faultE p h) := by
  unfold faultE;by_cases hz : planE p = 0
  ·simp [hz, fault_home hg]
  ·have : (planE p == 0) = false := by simpa using hz
   simp only [this, cond_false, hz, if_false]
 by_cases hf : faultE p h = 0
 ·obtain ⟨h0, c, a, hr, hfind⟩ := open_ok hf
  have hc := hg.2 c (List.mem_of_find?_eq_some hfind);obtain ⟨r, r1, r2⟩ := read_ok hg h0 hr hfind (by have := (hp.2 c (List.mem_of_find?_eq_some hfind)).1; omega) (by omega) t ht;simp only [form_ok hg h0 hr hc n (by omega), r1, r2, Option.bind_some, hfault, hf, bne_self_eq_false, cond_false, beq_self_eq_true, Bool.not_true, Bool.or_self, ref_split hg (apart_of h0) n (by omega)];by_cases hx : (splitE p n).2 = 0
  ·simp only [hx, bne_self_eq_false, cond_false, if_true, beq_self_eq_true, cond_true, form_ref hg h0 hfind n (by omega), Option.bind_some, uF35]
  ·have hne : ((splitE p n).2 != 0) = true := by simpa using hx
   simp only [hne, cond_true, hx, if_false, beq_self_eq_true, Bool.and_self, Option.bind_some, uF35]
 ·have hne : (faultE p h != 0) = true := by simpa using hf
  obtain ⟨f1, f2⟩ := form_bad hg hf n t;have hsa : sadd ([] : List UInt8) [] = some [] := sadd_of (by simp);simp only [f1, f2, Option.bind_some, hfault, hne, cond_true, beq_self_eq_true, Bool.and_self, hsa, uF35]
end Go.Proofs.YtoclmbbfdokbhaaGreatDoor
