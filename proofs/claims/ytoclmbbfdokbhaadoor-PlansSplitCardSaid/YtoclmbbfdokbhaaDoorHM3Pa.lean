/-
  PlansSplit: what is drawn.
-/
import Derived.Test.YtoclmbbfdokbhaaDoorHM3Aa
import Derived.Test.YtoclmbbfdokbhaaDoorHM3Absc
namespace Go.Proofs.YtoclmbbfdokbhaaDoor
open Go Go.Abs
set_option maxRecDepth 100000
set_option maxHeartbeats 1000000
theorem below_is (x n : Int) (h1 : 1 ≤ n) (h2 : n ≤ 4611686018427387904) : uF32 x n = some (x % n) := by
 have hn : ¬ n < 1 := by omega
 have hn0 : n ≠ 0 := by omega
 have hlt : x.tmod n < n := Int.tmod_lt_of_pos _ (by omega);have hgt : -n < x.tmod n := by
  have := Int.tmod_lt_of_pos (-x) (b := n) (by omega)
  rw [Int.neg_tmod] at this; omega
 rw [emod_tmod x n h1];by_cases h : x.tmod n < 0
 ·simp (disch := omega) [uF32, hn, grem, hn0, h, bnd, w64]
 ·simp [uF32, hn, grem, hn0, h, bnd]
def SOk (s : uT0) (k : Int) : Prop := s.L.length ≤ 4611686018427387904 ∧ 0 ≤ s.at_ ∧ s.at_ ≤ k
theorem next_is (s : uT0) (n k : Int) (hs : SOk s k) (hk : k ≤ 4611686018427387904) (h1 : 1 ≤ n) (h2 : n ≤ 4611686018427387904) :
  ∃ r, uF13 s n = some (⟨s.L, s.at_ + 1⟩, r) ∧ 0 ≤ r ∧ r < n := by
 obtain ⟨hl, ha, hb⟩ := hs;have e1 : IntKind.wrap .i64 (s.at_ + 1) = s.at_ + 1 := w64 (by omega) (by omega);have hm : ∀ x : Int, 0 ≤ x % n ∧ x % n < n := fun x => ⟨Int.emod_nonneg _ (by omega), Int.emod_lt_of_pos _ (by omega)⟩;unfold uF13;rw [e1];by_cases h0 : s.L.length = 0
 ·have hz : (s.L.length : Int) = 0 := by omega
  simp [hz, below_is _ _ h1 h2];exact hm _
 ·have hz : ¬ ((s.L.length : Int) = 0) := by omega
  have e2 : IntKind.wrap .i64 (s.at_ + 1 - 1) = s.at_ := by rw [w64] <;> omega
  have hi : 0 ≤ s.at_.tmod s.L.length ∧ s.at_.tmod s.L.length < s.L.length := ⟨Int.tmod_nonneg _ ha, Int.tmod_lt_of_pos _ (by omega)⟩;obtain ⟨x, hx, _⟩ := idx_of hi.1 hi.2;rw [e2];have hne : s.L ≠ [] := by rintro q; simp [q] at h0
  have hb : ((s.L.length : Int) == 0) = false := by simp [hne]
  simp [hb, hne, grem, gquo, hx, below_is _ _ h1 h2, below_is _ 1073741824 (by omega) (by omega)];exact hm _
theorem range_is (s : uT0) (lo hi k : Int) (hs : SOk s k) (hk : k ≤ 4611686018427387904) (h1 : lo ≤ hi) (h2 : -1000000000000 ≤ lo) (h3 : hi ≤ 1000000000000) :
  ∃ r, uF21 s lo hi = some (⟨s.L, s.at_ + 1⟩, r) ∧ lo ≤ r ∧ r ≤ hi := by
 obtain ⟨r, e, r1, r2⟩ := next_is s (hi - lo + 1) k hs hk (by omega) (by omega);have hlt : ¬ hi < lo := by omega
 refine ⟨lo + r, ?_, by omega, by omega⟩;simp (disch := omega) [uF21, hlt, w64, e, bnd]

theorem SOk.up {s : uT0} {k m : Int} (h : SOk s k) (e : k ≤ m) : SOk s m := ⟨h.1, h.2.1, Int.le_trans h.2.2 e⟩
theorem SOk.one {s : uT0} {k : Int} (h : SOk s k) : SOk ⟨s.L, s.at_ + 1⟩ (k + 1) := by
 obtain ⟨a, b, c⟩ := h;exact ⟨a, by (try simp only []); omega, by (try simp only []); omega⟩
theorem pick_in (s : uT0) (l : List Int) (k : Int) (hs : SOk s k) (hk : k ≤ 1000000) (hl : 0 < l.length) (hl2 : l.length ≤ 1000) : ∃ r, uF15 s l = some (⟨s.L, s.at_ + 1⟩, r) ∧ r ∈ l := by
 obtain ⟨r, e, r1, r2⟩ := next_is s l.length k hs (by omega) (by omega) (by omega);obtain ⟨x, hx, hm⟩ := idx_of r1 r2;exact ⟨x, by simp [uF15, e, hx], hm⟩
theorem flip_is (s : uT0) (n k : Int) (hs : SOk s k) (hk : k ≤ 1000000) (h1 : 1 ≤ n) (h2 : n ≤ 1000) : ∃ b, uF12 s n = some (⟨s.L, s.at_ + 1⟩, b) := by
 obtain ⟨r, e, r1, r2⟩ := next_is s n k hs (by omega) (by omega) (by omega);exact ⟨r == 0, by simp [uF12, e, bnd]⟩
def hpB (x y : List UInt8) : Bool := decide (y.length ≤ x.length) && (x.take y.length == y)
theorem hp_is (x y : List UInt8) : uF25 x y = some (hpB x y) := by
 unfold uF25 uF39 hpB;by_cases h : y.length ≤ x.length
 ·have h1 : decide ((x.length : Int) ≥ (y.length : Int)) = true := decide_eq_true (by omega)
  have h2 : sub x 0 (y.length : Int) = some (x.take y.length) := by
   unfold sub;rw [if_pos (by omega)]; simp
  simp only [h1, h2, h, cond_true, Option.bind_some, decide_true, Bool.true_and]
 ·have h1 : decide ((x.length : Int) ≥ (y.length : Int)) = false := decide_eq_false (by omega)
  simp only [h1, h, cond_false, Option.bind_some, decide_false, Bool.false_and]
theorem cut_is (x y : List UInt8) : uF29 x y = some (if hpB x y = true then (x.drop y.length, true) else (x, false)) := by
 have h := hp_is x y;unfold uF25 at h;obtain ⟨b, hb, h'⟩ := obind h;have h' := Option.some.inj h';subst h';unfold uF29 uF41;simp only [bnd, hb, Option.bind_some];cases hq : hpB x y with
 | false => simp
 | true =>
  have hl : y.length ≤ x.length := by simp [hpB] at hq; exact hq.1
  have h2 : sub x (y.length : Int) (x.length : Int) = some (x.drop y.length) := by
   unfold sub;rw [if_pos (by omega)]; simp
  simp [h2]
def digs : List UInt8 := [48, 49, 50, 51, 52, 53, 54, 55, 56, 57]
def digB (x : List UInt8) (lo hi : Int) : Bool := (decide (lo ≤ (x.length : Int)) && decide ((x.length : Int) ≤ hi)) && (Lib.trimS x digs == [])
theorem trim_is (x : List UInt8) (h : x.length ≤ 1000000) : uF38 x digs = some (Lib.trimS x digs) := by
 have hk : trimOk x digs = true := by
  unfold trimOk digs;have : x.length ≤ 9223372036854775807 := by omega
  simp [this]
 simp [uF38, hk]
theorem dig_is (x : List UInt8) (lo hi : Int) (h : x.length ≤ 1000000) : uF23 x lo hi = some (digB x lo hi) := by
 unfold uF23 uF30 digB;rw [show ([48, 49, 50, 51, 52, 53, 54, 55, 56, 57] : List UInt8) = digs from rfl, trim_is x h];simp only [bnd, Option.bind_some];cases (decide (lo ≤ (x.length : Int)) && decide ((x.length : Int) ≤ hi)) <;> rfl
theorem dig_is' (x : List UInt8) (lo hi : Int) (h : x.length ≤ 1000000) : uF40 x lo hi = some (digB x lo hi) := by
 unfold uF40 uF51 digB;rw [show ([48, 49, 50, 51, 52, 53, 54, 55, 56, 57] : List UInt8) = digs from rfl, trim_is x h];simp only [bnd, Option.bind_some, ge_iff_le];cases (decide (lo ≤ (x.length : Int)) && decide ((x.length : Int) ≤ hi)) <;> rfl

def GoodA (a : uT2) : Prop := a.Prefix.length ≤ 100000 ∧ -4611686018427387904 ≤ a.Low ∧ a.Low ≤ 4611686018427387904 ∧ -4611686018427387904 ≤ a.High ∧ a.High ≤ 4611686018427387904
def GoodC (c : uT1) : Prop := c.Code.length ≤ 100000 ∧ c.Abroad.length ≤ 100000 ∧ c.Trunk.length ≤ 100000 ∧ c.Areas.length ≤ 100000 ∧ ∀ a ∈ c.Areas, GoodA a

def errL {α : Type} (f : Nat → α → Int) : Nat → List α → Int
  | _, [] => 0
  | i, a :: l => if f i a = 0 then errL f (i + 1) l else f i a
theorem err_loop {α : Type} {step : Int → Option (Int ⊕ (Unit ⊕ Int))} (l : List α) (f : Nat → α → Int)
  (h : ∀ (i : Nat) (a : α), l[i]? = some a → step (i : Int) = some (if f i a = 0 then .inl ((i + 1 : Nat) : Int) else .inr (.inr (f i a)))) (hend : step (l.length : Int) = some (.inr (.inl ()))) :
  loopO step 0 = some (if errL f 0 l = 0 then .inl () else .inr (errL f 0 l)) := by
 have key : ∀ (m : List α) (i : Nat), foldE (fun i a (_ : Unit) => some (if f i a = 0 then (.inl () : Unit ⊕ (Unit ⊕ Int)) else .inr (.inr (f i a)))) (fun _ => (.inl () : Unit ⊕ Int)) i m () = some (if errL f i m = 0 then .inl () else .inr (errL f i m)) := by
  intro m;induction m with
  | nil => intro i; rfl
  | cons a m ih =>
   intro i;by_cases e : f i a = 0
   ·simp only [foldE, e, if_true, errL]; exact ih (i + 1)
   ·simp only [foldE, e, if_false, errL]
 have := loop_list (step := step) l (fun i (_ : Unit) => (i : Int)) (fun i a _ => some (if f i a = 0 then (.inl () : Unit ⊕ (Unit ⊕ Int)) else .inr (.inr (f i a)))) (fun _ => .inl ()) (fun i a s hi => by
  rw [h i a hi];by_cases e : f i a = 0 <;> simp [e]) (fun s => hend) ()
 rw [← key l 0]; exact this
theorem errL_zero {α : Type} {f : Nat → α → Int} : ∀ {l : List α} {i : Nat}, errL f i l = 0 → ∀ k a, l[k]? = some a → f (i + k) a = 0
 | [], _, _, k, a, hk => by simp at hk
 | b :: l, i, h, k, a, hk => by
  by_cases e : f i b = 0
  ·simp only [errL, e, if_true] at h
   cases k with
   | zero => simp at hk; subst hk; exact e
   | succ k =>
    have := errL_zero h k a (by simpa using hk)
    rwa [show i + 1 + k = i + (k + 1) from by omega] at this
  ·simp only [errL, e, if_false] at h

def areaE (c : uT1) (k : Nat) (a : uT2) : Int :=
  let p : uT2 := c.Areas[k - 1]?.getD a
  bif !digB a.Prefix 1 8 then 3
  else bif decide (0 < k) && (Op.bytesLess a.Prefix p.Prefix || a.Prefix == p.Prefix) then 7
  else bif (decide (0 < k) && hpB a.Prefix p.Prefix) || (hpB (c.Trunk ++ a.Prefix) c.Abroad || hpB c.Abroad (c.Trunk ++ a.Prefix)) then 13
  else bif ((decide (a.Low ≤ (a.Prefix.length : Int)) || decide (a.Low > a.High)) || decide (a.High > 15 - (c.Code.length : Int))) || decide (a.Low < 4 - (c.Code.length : Int)) then 1 else 0
theorem sadd_of {x y : List UInt8} (h : x.length + y.length ≤ 4611686018427387904) : sadd x y = some (x ++ y) := by simp [sadd, h]
theorem prev_at {α : Type} {l : List α} {k : Nat} {a b : α} (hk : l[k]? = some a) (h0 : 0 < k) (hl : l.length ≤ 100000) : idx l (IntKind.wrap .i64 ((k : Int) - 1)) = some (l[k - 1]?.getD b) := by
 have hlt := (List.getElem?_eq_some_iff.1 hk).1;rw [w64 (by omega) (by omega), show ((k : Int) - 1) = ((k - 1 : Nat) : Int) from by omega, idx_at (by omega)];simp [show k - 1 < l.length from by omega]
theorem area_is {c : uT1} {k : Nat} {a : uT2} (hc : GoodC c) (hk : c.Areas[k]? = some a) : uF27 c (k : Int) = some (areaE c k a) := by
 obtain ⟨h1, h2, h3, h4, h5⟩ := hc;obtain ⟨g1, g2, g3, g4, g5⟩ := h5 a (List.mem_of_getElem? hk);have ws : sadd c.Trunk a.Prefix = some (c.Trunk ++ a.Prefix) := sadd_of (by omega);have w1 : IntKind.wrap .i64 (15 - (c.Code.length : Int)) = 15 - (c.Code.length : Int) := w64 (by omega) (by omega);have w2 : IntKind.wrap .i64 (4 - (c.Code.length : Int)) = 4 - (c.Code.length : Int) := w64 (by omega) (by omega);unfold uF27 areaE;simp only [idx_nat, hk, Option.bind_some, ws, dig_is' a.Prefix 1 8 (by omega), hp_is, bnd, w1, w2];cases digB a.Prefix 1 8
 ·rfl
 ·simp only [Bool.not_true, cond_false]
  by_cases h0 : 0 < k
  ·have hd : decide ((k : Int) > 0) = true := decide_eq_true (by omega)
   simp only [hd, cond_true, prev_at (b := a) hk h0 h4, Option.bind_some, decide_eq_true h0, Bool.true_and];cases (Op.bytesLess a.Prefix (c.Areas[k - 1]?.getD a).Prefix || a.Prefix == (c.Areas[k - 1]?.getD a).Prefix)
   ·simp only [cond_false]
    cases hpB a.Prefix (c.Areas[k - 1]?.getD a).Prefix
    ·simp only [cond_false, Bool.false_or]
     cases hpB (c.Trunk ++ a.Prefix) c.Abroad
     ·simp only [cond_false, Bool.false_or, Option.bind_some]
      cases hpB c.Abroad (c.Trunk ++ a.Prefix) <;> simp only [cond_false, cond_true, Option.bind_some] <;> (try rfl) <;> cases ((decide (a.Low ≤ (a.Prefix.length : Int)) || decide (a.Low > a.High)) || decide (a.High > 15 - (c.Code.length : Int))) || decide (a.Low < 4 - (c.Code.length : Int)) <;> rfl
     ·simp only [cond_true, Bool.true_or, Option.bind_some]
    ·simp only [cond_true, Bool.true_or, Option.bind_some]
   ·simp only [cond_true]
  ·have hd : decide ((k : Int) > 0) = false := decide_eq_false (by omega)
   simp only [hd, cond_false, Option.bind_some, decide_eq_false h0, Bool.false_and, Bool.false_or];cases hpB (c.Trunk ++ a.Prefix) c.Abroad
   ·simp only [cond_false, Bool.false_or, Option.bind_some]
    cases hpB c.Abroad (c.Trunk ++ a.Prefix) <;> simp only [cond_false, cond_true, Option.bind_some] <;> (try rfl) <;> cases ((decide (a.Low ≤ (a.Prefix.length : Int)) || decide (a.Low > a.High)) || decide (a.High > 15 - (c.Code.length : Int))) || decide (a.Low < 4 - (c.Code.length : Int)) <;> rfl
   ·simp only [cond_true, Bool.true_or, Option.bind_some]
theorem c1_is {c : uT1} {k : Nat} {a : uT2} (hc : GoodC c) (hk : c.Areas[k]? = some a) : uF8 c (k : Int) = some (if areaE c k a = 0 then .inl ((k + 1 : Nat) : Int) else .inr (.inr (areaE c k a))) := by
 have hlt := (List.getElem?_eq_some_iff.1 hk).1;have h4 := hc.2.2.2.1;have hd : decide ((k : Int) < (c.Areas.length : Int)) = true := decide_eq_true (by omega);unfold uF8;simp only [hd, cond_true, area_is hc hk, Option.bind_some, w64 (n := (k : Int) + 1) (by omega) (by omega)];by_cases e : areaE c k a = 0
 ·simp [e]
 ·have : (areaE c k a != 0) = true := by simpa using e
  simp only [this, cond_true, e, if_false]
theorem f1_is {c : uT1} {k : Nat} {a : uT2} (hc : GoodC c) (hk : c.Areas[k]? = some a) : uF7 c (k : Int) = some (if areaE c k a = 0 then .inl ((k + 1 : Nat) : Int) else .inr (.inr (areaE c k a))) := by
 have hlt := (List.getElem?_eq_some_iff.1 hk).1;obtain ⟨h1, h2, h3, h4, h5⟩ := hc;obtain ⟨g1, g2, g3, g4, g5⟩ := h5 a (List.mem_of_getElem? hk);have hd : decide ((k : Int) < (c.Areas.length : Int)) = true := decide_eq_true (by omega);have ws : sadd c.Trunk a.Prefix = some (c.Trunk ++ a.Prefix) := sadd_of (by omega);have w1 : IntKind.wrap .i64 (a.High + (c.Code.length : Int)) = a.High + (c.Code.length : Int) := w64 (by omega) (by omega);have w2 : IntKind.wrap .i64 (a.Low + (c.Code.length : Int)) = a.Low + (c.Code.length : Int) := w64 (by omega) (by omega);have d1 : decide (a.High + (c.Code.length : Int) > 15) = decide (a.High > 15 - (c.Code.length : Int)) := decide_eq_decide.2 (by omega);have d2 : decide (a.Low + (c.Code.length : Int) < 4) = decide (a.Low < 4 - (c.Code.length : Int)) := decide_eq_decide.2 (by omega);unfold uF7 areaE;simp only [hd, cond_true, idx_nat, hk, Option.bind_some, ws, dig_is a.Prefix 1 8 (by omega), hp_is, bnd, w1, w2, d1, d2, w64 (n := (k : Int) + 1) (by omega) (by omega)];cases digB a.Prefix 1 8
 ·rfl
 ·simp only [Bool.not_true, cond_false]
  by_cases h0 : 0 < k
  ·have hd : decide ((k : Int) > 0) = true := decide_eq_true (by omega)
   simp only [hd, cond_true, prev_at (b := a) hk h0 h4, Option.bind_some, decide_eq_true h0, Bool.true_and];cases (Op.bytesLess a.Prefix (c.Areas[k - 1]?.getD a).Prefix || a.Prefix == (c.Areas[k - 1]?.getD a).Prefix)
   ·simp only [cond_false]
    cases hpB a.Prefix (c.Areas[k - 1]?.getD a).Prefix
    ·simp only [cond_false, Bool.false_or]
     cases hpB (c.Trunk ++ a.Prefix) c.Abroad
     ·simp only [cond_false, Bool.false_or, Option.bind_some]
      cases hpB c.Abroad (c.Trunk ++ a.Prefix) <;> simp only [cond_false, cond_true, Option.bind_some] <;> (try rfl) <;> cases ((decide (a.Low ≤ (a.Prefix.length : Int)) || decide (a.Low > a.High)) || decide (a.High > 15 - (c.Code.length : Int))) || decide (a.Low < 4 - (c.Code.length : Int)) <;> rfl
     ·rfl
    ·rfl
   ·rfl
  ·have hd : decide ((k : Int) > 0) = false := decide_eq_false (by omega)
   simp only [hd, cond_false, Option.bind_some, decide_eq_false h0, Bool.false_and, Bool.false_or];cases hpB (c.Trunk ++ a.Prefix) c.Abroad
   ·simp only [cond_false, Bool.false_or, Option.bind_some]
    cases hpB c.Abroad (c.Trunk ++ a.Prefix) <;> simp only [cond_false, cond_true, Option.bind_some] <;> (try rfl) <;> cases ((decide (a.Low ≤ (a.Prefix.length : Int)) || decide (a.Low > a.High)) || decide (a.High > 15 - (c.Code.length : Int))) || decide (a.Low < 4 - (c.Code.length : Int)) <;> rfl
   ·rfl
theorem areas_end {c : uT1} : uF8 c (c.Areas.length : Int) = some (.inr (.inl ())) ∧ uF7 c (c.Areas.length : Int) = some (.inr (.inl ())) := by
 constructor
 ·simp [uF8]
 ·simp [uF7]
theorem c1_loop {c : uT1} (hc : GoodC c) : loopO (fun s : Int => uF8 c s) 0 = some (if errL (areaE c) 0 c.Areas = 0 then .inl () else .inr (errL (areaE c) 0 c.Areas)) :=
 err_loop c.Areas (areaE c) (fun _ _ h => c1_is hc h) areas_end.1
theorem f1_loop {c : uT1} (hc : GoodC c) : loopO (fun s : Int => uF7 c s) 0 = some (if errL (areaE c) 0 c.Areas = 0 then .inl () else .inr (errL (areaE c) 0 c.Areas)) :=
 err_loop c.Areas (areaE c) (fun _ _ h => f1_is hc h) areas_end.2
def countryE (p : List uT1) (k : Nat) (c : uT1) : Int :=
  let o : uT1 := p[k - 1]?.getD c
  bif !digB c.Code 1 3 || (((c.Code[0]?.getD 0).toNat : Int) == 48) then 3
  else bif decide (0 < k) && (Op.bytesLess c.Code o.Code || c.Code == o.Code) then 7
  else bif (p.take k).any (fun o => hpB c.Code o.Code) then 13
  else bif (!digB c.Abroad 1 4 || !digB c.Trunk 0 2) || hpB c.Trunk c.Abroad then 3
  else bif decide ((c.Areas.length : Int) > 300) then 2 else errL (areaE c) 0 c.Areas
def planE (p : List uT1) : Int := if (p.length : Int) > 100 then 2 else errL (countryE p) 0 p
def GoodP (p : List uT1) : Prop := p.length ≤ 100000 ∧ ∀ c ∈ p, GoodC c
theorem dig_ne {x : List UInt8} {hi : Int} (h : digB x 1 hi = true) : idx x 0 = some (x[0]?.getD 0) := by
 have h1 : 1 ≤ (x.length : Int) := by
  simp only [digB, Bool.and_eq_true, decide_eq_true_eq] at h; exact h.1.1
 cases x with
 | nil => simp at h1
 | cons a x => rfl
theorem any_is (l : List uT1) (g : uT1 → Option Bool) (q : uT1 → Bool) (hg : ∀ a ∈ l, g a = some (q a)) (hl : l.length ≤ 100000) : uF18 l g = some (l.any q) := by
 have h : uF33 l g = some (idxI q l) := idxF_loop l g q hg (by omega);unfold uF18;simp only [h, Option.bind_some, bnd, idxI_any]
theorem sub_take {α : Type} {l : List α} {k : Nat} (h : k ≤ l.length) : sub l 0 (k : Int) = some (l.take k) := by
 unfold sub;rw [if_pos (by omega)]; simp
theorem conf_loop {c : uT1} (l : List uT1) (hl : l.length ≤ 100000) : loopO (fun s : Int => uF26 c l s) 0 = some (if l.any (fun o => hpB c.Code o.Code) = true then .inr 13 else .inl ()) := by
 have h := err_loop (step := fun s : Int => uF26 c l s) l (fun _ o => if hpB c.Code o.Code = true then 13 else 0) (fun i a hi => by
  have hlt := (List.getElem?_eq_some_iff.1 hi).1;have hd : decide ((i : Int) < (l.length : Int)) = true := decide_eq_true (by omega);simp only [uF26, hd, cond_true, idx_nat, hi, Option.bind_some, hp_is, w64 (n := (i : Int) + 1) (by omega) (by omega)];cases hpB c.Code a.Code <;> simp) (by simp [uF26])
 rw [h];have key : ∀ (l : List uT1) (i : Nat), errL (fun _ (o : uT1) => if hpB c.Code o.Code = true then (13 : Int) else 0) i l = if l.any (fun o => hpB c.Code o.Code) = true then 13 else 0 := by
  intro l;induction l with
  | nil => intro i; rfl
  | cons a l ih =>
   intro i;simp only [errL, List.any_cons];by_cases hb : hpB c.Code a.Code = true
   ·simp [hb]
   ·have hb' : hpB c.Code a.Code = false := by simpa using hb
    simp only [hb', Bool.false_eq_true, if_false, if_true, Bool.false_or]; exact ih (i + 1)
 rw [key];cases l.any (fun o => hpB c.Code o.Code) <;> simp

theorem country_is {p : List uT1} {k : Nat} {c : uT1} (hp : GoodP p) (hk : p[k]? = some c) :
  uF8b p (k : Int) = some (if countryE p k c = 0 then .inl ((k + 1 : Nat) : Int) else .inr (.inr (countryE p k c))) := by
 have hlt := (List.getElem?_eq_some_iff.1 hk).1;obtain ⟨hl, hg⟩ := hp;have hc := hg c (List.mem_of_getElem? hk);obtain ⟨h1, h2, h3, h4, h5⟩ := hc;have hd : decide ((k : Int) < (p.length : Int)) = true := decide_eq_true (by omega);have w1 := w64 (n := (k : Int) + 1) (by omega) (by omega);have key : ∃ e, uF26a p (k : Int) = some e ∧ countryE p k c = (if e = 0 then errL (areaE c) 0 c.Areas else e) := by
  unfold uF26a countryE;simp only [idx_nat, hk, Option.bind_some, dig_is' c.Code 1 3 (by omega), dig_is' c.Abroad 1 4 (by omega), dig_is' c.Trunk 0 2 (by omega), bnd, sub_take (Nat.le_of_lt hlt), conf_loop (c := c) (p.take k) (by simp; omega), hp_is];cases hq : digB c.Code 1 3
  ·exact ⟨3, rfl, rfl⟩
  ·simp only [Bool.not_true, cond_false, dig_ne hq, Option.bind_some, Bool.false_or]
   cases (((c.Code[0]?.getD 0).toNat : Int) == 48)
   ·simp only [cond_false]
    have ho : (bif decide ((k : Int) > 0) then ((idx p (IntKind.wrap .i64 ((k : Int) - 1))).bind fun y44 => some (Op.bytesLess c.Code y44.Code || c.Code == y44.Code)) else some false) = some (decide (0 < k) && (Op.bytesLess c.Code (p[k - 1]?.getD c).Code || c.Code == (p[k - 1]?.getD c).Code)) := by
     by_cases h0 : 0 < k
     ·simp only [decide_eq_true (show (k : Int) > 0 from by omega), cond_true, prev_at (b := c) hk h0 hl, Option.bind_some, decide_eq_true h0, Bool.true_and]
     ·simp only [decide_eq_false (show ¬ (k : Int) > 0 from by omega), cond_false, decide_eq_false h0, Bool.false_and]
    simp only [ho, Option.bind_some];cases (decide (0 < k) && (Op.bytesLess c.Code (p[k - 1]?.getD c).Code || c.Code == (p[k - 1]?.getD c).Code))
    ·simp only [cond_false]
     cases (p.take k).any (fun o => hpB c.Code o.Code)
     ·simp only [Bool.false_eq_true, if_false, lret, cond_false]
      cases digB c.Abroad 1 4
      ·exact ⟨3, rfl, rfl⟩
      ·cases digB c.Trunk 0 2
       ·exact ⟨3, rfl, rfl⟩
       ·simp only [Bool.not_true, cond_false, Option.bind_some, Bool.false_or]
        cases hpB c.Trunk c.Abroad
        ·simp only [cond_false]
         cases decide ((c.Areas.length : Int) > 300)
         ·exact ⟨0, rfl, rfl⟩
         ·exact ⟨2, rfl, rfl⟩
        ·exact ⟨3, rfl, rfl⟩
     ·exact ⟨13, rfl, rfl⟩
    ·exact ⟨7, rfl, rfl⟩
   ·exact ⟨3, rfl, rfl⟩
 obtain ⟨e, e1, e2⟩ := key;unfold uF8b;simp only [hd, cond_true, idx_nat, hk, Option.bind_some, e1, c1_loop ⟨h1, h2, h3, h4, h5⟩, w1, e2];by_cases he : e = 0
 ·subst he
  simp only [bne_self_eq_false, cond_false, if_true];by_cases ha : errL (areaE c) 0 c.Areas = 0 <;> simp [ha, lret]
 ·have : (e != 0) = true := by simpa using he
  simp only [this, cond_true, he, if_false]
theorem fault_is {p : List uT1} {k : Nat} {c : uT1} (hp : GoodP p) (hk : p[k]? = some c) :
  uF7a p (k : Int) = some (if countryE p k c = 0 then .inl ((k + 1 : Nat) : Int) else .inr (.inr (countryE p k c))) := by
 have hlt := (List.getElem?_eq_some_iff.1 hk).1;obtain ⟨hl, hg⟩ := hp;have hc := hg c (List.mem_of_getElem? hk);obtain ⟨h1, h2, h3, h4, h5⟩ := hc;have hd : decide ((k : Int) < (p.length : Int)) = true := decide_eq_true (by omega);have w1 := w64 (n := (k : Int) + 1) (by omega) (by omega);have hany : uF18 (p.take k) (fun a0 => uF24 a0 c) = some ((p.take k).any (fun o => hpB c.Code o.Code)) :=
  any_is _ _ _ (fun a _ => by simp [uF24, hp_is]) (by simp; omega)
 unfold uF7a countryE;simp only [hd, cond_true, idx_nat, hk, Option.bind_some, dig_is c.Code 1 3 (by omega), dig_is c.Abroad 1 4 (by omega), dig_is c.Trunk 0 2 (by omega), bnd, sub_take (Nat.le_of_lt hlt), hany, hp_is, f1_loop ⟨h1, h2, h3, h4, h5⟩, w1];cases hq : digB c.Code 1 3
 ·rfl
 ·simp only [Bool.not_true, cond_false, dig_ne hq, Option.bind_some, Bool.false_or]
  cases (((c.Code[0]?.getD 0).toNat : Int) == 48)
  ·simp only [cond_false]
   have ho : (bif decide ((k : Int) > 0) then ((idx p (IntKind.wrap .i64 ((k : Int) - 1))).bind fun y44 => some (Op.bytesLess c.Code y44.Code || c.Code == y44.Code)) else some false) = some (decide (0 < k) && (Op.bytesLess c.Code (p[k - 1]?.getD c).Code || c.Code == (p[k - 1]?.getD c).Code)) := by
    by_cases h0 : 0 < k
    ·simp only [decide_eq_true (show (k : Int) > 0 from by omega), cond_true, prev_at (b := c) hk h0 hl, Option.bind_some, decide_eq_true h0, Bool.true_and]
    ·simp only [decide_eq_false (show ¬ (k : Int) > 0 from by omega), cond_false, decide_eq_false h0, Bool.false_and]
   simp only [ho, Option.bind_some];cases (decide (0 < k) && (Op.bytesLess c.Code (p[k - 1]?.getD c).Code || c.Code == (p[k - 1]?.getD c).Code))
   ·simp only [cond_false]
    cases (p.take k).any (fun o => hpB c.Code o.Code)
    ·simp only [cond_false]
     cases digB c.Abroad 1 4
     ·rfl
     ·cases digB c.Trunk 0 2
      ·rfl
      ·simp only [Bool.not_true, cond_false, Option.bind_some, Bool.false_or]
       cases hpB c.Trunk c.Abroad
       ·simp only [cond_false]
        cases decide ((c.Areas.length : Int) > 300)
        ·simp only [cond_false]
         by_cases ha : errL (areaE c) 0 c.Areas = 0 <;> simp [ha, lret]
        ·rfl
       ·rfl
    ·rfl
   ·rfl
  ·rfl
theorem check_plan {p : List uT1} (hp : GoodP p) : uF8a p = some (planE p) := by
 have h := err_loop p (countryE p) (fun _ _ h => country_is hp h) (by simp [uF8b]);unfold uF8a planE;rw [h];by_cases hl : (p.length : Int) > 100
 ·simp [hl]
 ·simp only [decide_eq_false hl, cond_false, hl, if_false]
  by_cases he : errL (countryE p) 0 p = 0 <;> simp [he, lret]
theorem plan_fault {p : List uT1} (hp : GoodP p) : uF7b p = some (planE p) := by
 have h := err_loop p (countryE p) (fun _ _ h => fault_is hp h) (by simp [uF7a]);unfold uF7b planE;rw [h];by_cases hl : (p.length : Int) > 100
 ·simp [hl]
 ·simp only [decide_eq_false hl, cond_false, hl, if_false]
  by_cases he : errL (countryE p) 0 p = 0 <;> simp [he, lret]
theorem idx_find {α : Type} (q : α → Bool) : ∀ l : List α, (idxI q l < 0 ∧ l.find? q = none) ∨ (0 ≤ idxI q l ∧ ∃ a, idx l (idxI q l) = some a ∧ l.find? q = some a ∧ a ∈ l ∧ q a = true)
 | [] => .inl ⟨by simp [idxI_nil], rfl⟩
 | a :: l => by
  rw [idxI_cons]
  by_cases h : q a = true
  ·refine .inr ⟨by simp [h], a, ?_, ?_, by simp, h⟩
   ·simp [h, idx]
   ·simp [h]
  ·have h' : q a = false := by simpa using h
   rcases idx_find q l with ⟨h1, h2⟩ | ⟨h1, b, h2, h3, h4, h5⟩
   ·refine .inl ⟨?_, ?_⟩
    ·simp [h', h1]
    ·simp [h', h2]
   ·refine .inr ⟨?_, b, ?_, ?_, by simp [h4], h5⟩
    ·simp only [h', Bool.false_eq_true, if_false]
     rw [if_neg (by omega)]; omega
    ·simp only [h', Bool.false_eq_true, if_false]
     rw [if_neg (by omega)]
     obtain ⟨n, hn⟩ := Int.eq_ofNat_of_zero_le h1
     rw [hn] at h2 ⊢
     rw [show ((n : Int) + 1) = ((n + 1 : Nat) : Int) from by omega, idx_nat]
     rw [idx_nat] at h2
     simpa using h2
    ·simp [h', h3]
def firstR {T E : Type} (o : Option E) (z : T) : T ⊕ E := match o with
  | some r => .inr r
  | none => .inl z
theorem first_loop {α S E T : Type} {step : S → Option (S ⊕ (T ⊕ E))} (l : List α) (enc : Nat → S) (g : α → Option E) (z : T)
  (h : ∀ (i : Nat) (a : α), l[i]? = some a → step (enc i) = some (match g a with | some r => .inr (.inr r) | none => .inl (enc (i + 1)))) (hend : step (enc l.length) = some (.inr (.inl z))) :
  loopO step (enc 0) = some (firstR (l.findSome? g) z) := by
 have key : ∀ (m : List α) (i : Nat), foldE (fun _ a (_ : Unit) => some (match g a with | some r => (.inr (.inr r) : Unit ⊕ (T ⊕ E)) | none => .inl ())) (fun _ => (.inl z : T ⊕ E)) i m () = some (firstR (m.findSome? g) z) := by
  intro m;induction m with
  | nil => intro i; rfl
  | cons a m ih =>
   intro i;simp only [foldE, List.findSome?_cons];cases g a with
   | none => exact ih (i + 1)
   | some r => rfl
 have := loop_list (step := step) l (fun i (_ : Unit) => enc i) (fun _ a _ => some (match g a with | some r => (.inr (.inr r) : Unit ⊕ (T ⊕ E)) | none => .inl ())) (fun _ => .inl z) (fun i a s hi => by
  rw [h i a hi];cases g a <;> rfl) (fun s => hend) ()
 rw [← key l 0]; exact this
def formB (n : List UInt8) : Bool := hpB n [43] && (digB (n.drop 1) 4 15 && ((((n.drop 1)[0]?.getD 0).toNat : Int) != 48))
theorem hp_len {x y : List UInt8} (h : hpB x y = true) : y.length ≤ x.length := by simp [hpB] at h; exact h.1
theorem sub_drop {α : Type} {l : List α} {k : Nat} (h : k ≤ l.length) : sub l (k : Int) (l.length : Int) = some (l.drop k) := by
 unfold sub;rw [if_pos (by omega)]; simp
theorem dig_len {x : List UInt8} {lo hi : Int} (h : digB x lo hi = true) : lo ≤ x.length ∧ (x.length : Int) ≤ hi := by
 simp only [digB, Bool.and_eq_true, decide_eq_true_eq] at h; exact h.1
theorem isnum_is (n : List UInt8) (hn : n.length ≤ 100000) : uF34 n = some (formB n) := by
 unfold uF34 formB;rw [cut_is];cases hp : hpB n [43]
 ·rfl
 ·simp only [if_true, Option.bind_some, cond_true, Bool.true_and, List.length_cons, List.length_nil, Nat.zero_add]
  rw [dig_is' _ _ _ (by simp; omega)];cases hd : digB (n.drop 1) 4 15
  ·rfl
  ·obtain ⟨h1, _⟩ := dig_len hd
   have : idx (n.drop 1) 0 = some ((n.drop 1)[0]?.getD 0) := by
    cases hq : n.drop 1 with
    | nil => rw [hq] at h1; simp at h1
    | cons a x => rfl
   simp only [Option.bind_some, cond_true, this, Bool.true_and]
theorem form_is (n : List UInt8) (hn : n.length ≤ 100000) : uF28 n = some (formB n) := by
 unfold uF28 formB;rw [hp_is];cases hp : hpB n [43]
 ·rfl
 ·have hl := hp_len hp
  have hl : 1 ≤ n.length := by simpa using hl
  have hs : sub n 1 (n.length : Int) = some (n.drop 1) := sub_drop (k := 1) hl;simp only [Option.bind_some, cond_true, Bool.true_and, hs];rw [dig_is _ _ _ (by simp; omega)];cases hd : digB (n.drop 1) 4 15
  ·rfl
  ·obtain ⟨h1, _⟩ := dig_len hd
   have : idx n 1 = some ((n.drop 1)[0]?.getD 0) := by
    match n, h1 with
    | [], h1 => simp at h1
    | [_], h1 => simp at h1
    | _ :: b :: x, _ => rfl
   simp only [Option.bind_some, cond_true, this, Bool.true_and]
def noParts : uT3 := ⟨[], [], []⟩
def areaR (c : uT1) (nat : List UInt8) (a : uT2) : uT3 × Int :=
  bif decide ((nat.length : Int) < a.Low) || decide ((nat.length : Int) > a.High) then (noParts, 1) else (⟨c.Code, a.Prefix, nat.drop a.Prefix.length⟩, 0)
def splitE (p : List uT1) (n : List UInt8) : uT3 × Int :=
  bif !formB n then (noParts, 3) else match p.find? (fun c => hpB (n.drop 1) c.Code) with
  | none => (noParts, 8)
  | some c => match c.Areas.find? (fun a => hpB (n.drop (1 + c.Code.length)) a.Prefix) with
    | none => (noParts, 8)
    | some a => areaR c (n.drop (1 + c.Code.length)) a
theorem form_at {n : List UInt8} (h : formB n = true) : ∃ m, n = 43 :: m ∧ 4 ≤ m.length ∧ m.length ≤ 15 := by
 simp only [formB, Bool.and_eq_true] at h;obtain ⟨h1, h2, _⟩ := h;obtain ⟨h3, h4⟩ := dig_len h2;cases n with
 | nil => simp at h3
 | cons a m =>
  have : a = 43 := by simpa [hpB] using h1
  subst this;exact ⟨m, rfl, by simp at h3; omega, by simp at h4; omega⟩
theorem split_is {p : List uT1} (hp : GoodP p) (n : List UInt8) (hn : n.length ≤ 100000) : ∃ x, uF22 p n = some x ∧ (x.1.Parts, x.2) = splitE p n := by
 unfold uF22 splitE;rw [isnum_is n hn];simp only [Option.bind_some];cases hf : formB n
 ·exact ⟨_, rfl, rfl⟩
 ·obtain ⟨m, rfl, hm, hm2⟩ := form_at hf
  simp only [Bool.not_true, cond_false];have h1 : uF33 p (fun a0 => uF35 a0 (43 :: m)) = some (idxI (fun c => hpB ((43 :: m).drop 1) c.Code) p) :=
   idxF_loop p _ _ (fun a _ => by
    unfold uF35;rw [show sub (43 :: m) 1 ((43 :: m).length : Int) = some ((43 :: m).drop 1) from sub_drop (k := 1) (by simp)];simp only [Option.bind_some, hp_is]) (by have := hp.1; omega)
  simp only [h1, Option.bind_some];rcases idx_find (fun c : uT1 => hpB ((43 :: m).drop 1) c.Code) p with ⟨i1, i2⟩ | ⟨i1, c, i2, i3, i4, i5⟩
  ·simp only [decide_eq_true i1, cond_true, i2]
   exact ⟨_, rfl, rfl⟩
  ·have i5 : hpB m c.Code = true := i5
   have hcl := hp_len i5;have hc := hp.2 c i4;have ws : sub (43 :: m) (IntKind.wrap .i64 (1 + (c.Code.length : Int))) ((43 :: m).length : Int) = some ((43 :: m).drop (1 + c.Code.length)) := by
    rw [w64 (by omega) (by omega), show (1 + (c.Code.length : Int)) = ((1 + c.Code.length : Nat) : Int) from by omega];exact sub_drop (by simp; omega)
   simp only [decide_eq_false (show ¬ idxI (fun c : uT1 => hpB ((43 :: m).drop 1) c.Code) p < 0 from by omega), cond_false, i2, i3, Option.bind_some, ws];generalize (43 :: m).drop (1 + c.Code.length) = nat;have h2 : uF36 c.Areas (fun a0 => uF37 a0 nat) = some (idxI (fun a => hpB nat a.Prefix) c.Areas) :=
    idxF_loop c.Areas _ _ (fun a _ => by simp [uF37, hp_is]) (by have := hc.2.2.2.1; omega)
   simp only [h2, Option.bind_some];rcases idx_find (fun a : uT2 => hpB nat a.Prefix) c.Areas with ⟨j1, j2⟩ | ⟨j1, a, j2, j3, j4, j5⟩
   ·simp only [decide_eq_true j1, cond_true, j2]
    exact ⟨_, rfl, rfl⟩
   ·have hal := hp_len j5
    simp only [decide_eq_false (show ¬ idxI (fun a : uT2 => hpB nat a.Prefix) c.Areas < 0 from by omega), cond_false, j2, j3, Option.bind_some, sub_drop hal];unfold areaR;cases decide ((nat.length : Int) < a.Low) || decide ((nat.length : Int) > a.High)
    ·exact ⟨_, rfl, rfl⟩
    ·exact ⟨_, rfl, rfl⟩
/- The reference. -/
theorem hp_cons (m y : List UInt8) (a : UInt8) : hpB (a :: m) (a :: y) = hpB m y := by
 simp [hpB]
theorem in_is (x lo hi : Int) : uF30 x lo hi = some (decide (lo ≤ x) && decide (x ≤ hi)) := by simp [uF30, bnd]
theorem ref_areas {c : uT1} (hc : GoodC c) (nat : List UInt8) (z : uT3) : loopO (fun s : Int × uT3 => uF9a c (nat, true) s.1 s.2) (0, z) =
  some (firstR (c.Areas.findSome? (fun a => if hpB nat a.Prefix = true then some (areaR c nat a) else none)) z) := by
 have hl := hc.2.2.2.1;exact first_loop (step := fun s : Int × uT3 => uF9a c (nat, true) s.1 s.2) c.Areas (fun i => ((i : Int), z)) (fun a => if hpB nat a.Prefix = true then some (areaR c nat a) else none) z (fun i a hi => by
  have hlt := (List.getElem?_eq_some_iff.1 hi).1;have hd : decide ((i : Int) < (c.Areas.length : Int)) = true := decide_eq_true (by omega);simp only [uF9a, hd, cond_true, idx_nat, hi, Option.bind_some, cut_is, in_is, w64 (n := (i : Int) + 1) (by omega) (by omega)];cases hb : hpB nat a.Prefix
  ·simp
  ·simp only [if_true, cond_true, Option.bind_some, areaR]
   have : (!(decide (a.Low ≤ (nat.length : Int)) && decide ((nat.length : Int) ≤ a.High))) = (decide ((nat.length : Int) < a.Low) || decide ((nat.length : Int) > a.High)) := by
    rw [Bool.not_and, ← decide_not, ← decide_not];congr 1 <;> exact decide_eq_decide.2 (by omega)
   rw [this];cases decide ((nat.length : Int) < a.Low) || decide ((nat.length : Int) > a.High) <;> rfl) (by simp [uF9a])
theorem find_some {α β : Type} (q : α → Bool) (r : α → β) : ∀ l : List α, l.findSome? (fun a => if q a = true then some (r a) else none) = (l.find? q).map r
 | [] => rfl
 | a :: l => by
  by_cases h : q a = true
  ·simp [h]
  ·have h' : q a = false := by simpa using h
   simp only [List.findSome?_cons, h', Bool.false_eq_true, if_false, List.find?_cons, find_some q r l]
def Apart (p : List uT1) : Prop := p.Pairwise fun a b => hpB a.Code b.Code = false ∧ hpB b.Code a.Code = false
theorem take_both {m x y : List UInt8} (h1 : hpB m x = true) (h2 : hpB m y = true) : hpB x y = true ∨ hpB y x = true := by
 simp only [hpB, Bool.and_eq_true, decide_eq_true_eq, beq_iff_eq] at h1 h2 ⊢;obtain ⟨a1, a2⟩ := h1;obtain ⟨b1, b2⟩ := h2;rcases Nat.le_total x.length y.length with h | h
 ·refine .inr ⟨h, ?_⟩
  rw [← b2, List.take_take, Nat.min_eq_left h]; exact a2
 ·refine .inl ⟨h, ?_⟩
  rw [← a2, List.take_take, Nat.min_eq_left h]; exact b2
theorem first_only {β : Type} (m : List UInt8) (g : uT1 → Option β) : ∀ p : List uT1, Apart p → p.findSome? (fun c => if hpB m c.Code = true then g c else none) = (p.find? (fun c => hpB m c.Code)).bind g
 | [], _ => rfl
 | c :: p, h => by
  obtain ⟨h1, h2⟩ := List.pairwise_cons.1 h
  by_cases hc : hpB m c.Code = true
  ·simp only [List.findSome?_cons, hc, if_true, List.find?_cons, Option.bind_some]
   have hn : p.findSome? (fun c => if hpB m c.Code = true then g c else none) = none := by
    rw [List.findSome?_eq_none_iff]
    intro b hb
    have : hpB m b.Code = false := by
     cases hq : hpB m b.Code
     ·rfl
     ·obtain ⟨a1, a2⟩ := h1 b hb
      rcases take_both hc hq with h | h
      ·rw [a1] at h; exact absurd h (by simp)
      ·rw [a2] at h; exact absurd h (by simp)
    simp [this]
   rw [hn]
   cases g c <;> rfl
  ·have hc' : hpB m c.Code = false := by simpa using hc
   simp only [List.findSome?_cons, hc', Bool.false_eq_true, if_false, List.find?_cons]
   exact first_only m g p h2
theorem ref_split {p : List uT1} (hp : GoodP p) (ha : Apart p) (n : List UInt8) (hn : n.length ≤ 100000) : uF9b p n = some (splitE p n) := by
 unfold uF9b splitE;rw [form_is n hn];simp only [Option.bind_some];cases hf : formB n
 ·rfl
 ·obtain ⟨m, rfl, hm, hm2⟩ := form_at hf
  simp only [Bool.not_true, cond_false];have hl := hp.1;have h := first_loop (step := fun s : Int × uT3 => uF9 p (43 :: m) s.1 s.2) p (fun i => ((i : Int), noParts)) (fun c => if hpB m c.Code = true then c.Areas.findSome? (fun a => if hpB ((43 :: m).drop (1 + c.Code.length)) a.Prefix = true then some (areaR c ((43 :: m).drop (1 + c.Code.length)) a) else none) else none) noParts (fun i c hi => by
   have hlt := (List.getElem?_eq_some_iff.1 hi).1;have hd : decide ((i : Int) < (p.length : Int)) = true := decide_eq_true (by omega);have hc := hp.2 c (List.mem_of_getElem? hi);have hs : sadd [43] c.Code = some (43 :: c.Code) := sadd_of (by have := hc.1; simp; omega);simp only [uF9, hd, cond_true, idx_nat, hi, Option.bind_some, hs, cut_is, hp_cons, w64 (n := (i : Int) + 1) (by omega) (by omega)];cases hb : hpB m c.Code
   ·simp
   ·simp only [if_true, Bool.not_true, cond_false]
    rw [show (43 :: c.Code).length = 1 + c.Code.length from by simp; omega, ref_areas hc];cases c.Areas.findSome? (fun a => if hpB ((43 :: m).drop (1 + c.Code.length)) a.Prefix = true then some (areaR c ((43 :: m).drop (1 + c.Code.length)) a) else none) <;> simp [lret, firstR]) (by simp [uF9])
  have h : loopO (fun s : Int × uT3 => uF9 p (43 :: m) s.1 s.2) ((0 : Int), (⟨[], [], []⟩ : uT3)) = _ := h;rw [h, first_only m _ p ha];simp only [show (43 :: m).drop 1 = m from rfl];cases p.find? (fun c => hpB m c.Code) with
  | none => rfl
  | some c =>
   simp only [Option.bind_some, find_some];cases c.Areas.find? (fun a => hpB ((43 :: m).drop (1 + c.Code.length)) a.Prefix) <;> rfl
theorem bl_trans : ∀ {x y z : List UInt8}, Op.bytesLess x y = true → Op.bytesLess y z = true → Op.bytesLess x z = true
 | _, _, [], _, h => by simp [Op.bytesLess] at h
 | _, [], _ :: _, h, _ => by simp [Op.bytesLess] at h
 | [], _ :: _, _ :: _, _, _ => by simp [Op.bytesLess]
 | a :: x, b :: y, c :: z, h1, h2 => by
  simp only [Op.bytesLess, Bool.or_eq_true, decide_eq_true_eq, Bool.and_eq_true, beq_iff_eq] at h1 h2 ⊢
  rcases h1 with h1 | ⟨rfl, h1⟩
  ·rcases h2 with h2 | ⟨rfl, _⟩
   ·exact .inl (UInt8.lt_trans h1 h2)
   ·exact .inl h1
  ·rcases h2 with h2 | ⟨rfl, h2⟩
   ·exact .inl h2
   ·exact .inr ⟨rfl, bl_trans h1 h2⟩
theorem bl_tot : ∀ {x y : List UInt8}, Op.bytesLess x y = false → (x == y) = false → Op.bytesLess y x = true
 | [], [], _, h => by simp at h
 | _ :: _, [], _, _ => by simp [Op.bytesLess]
 | [], _ :: _, h, _ => by simp [Op.bytesLess] at h
 | a :: x, b :: y, h, k => by
  simp only [Op.bytesLess, Bool.or_eq_true, decide_eq_true_eq, Bool.and_eq_true, beq_iff_eq]
  simp only [Op.bytesLess, Bool.or_eq_false_iff, decide_eq_false_iff_not, Bool.and_eq_false_iff, beq_eq_false_iff_ne] at h
  by_cases e : a = b
  ·subst e
   refine .inr ⟨rfl, bl_tot (h.2.resolve_left (fun q => q rfl)) ?_⟩
   simpa using k
  ·refine .inl ?_
   have h1 := h.1
   have : ¬ a.toNat < b.toNat := fun q => h1 (UInt8.lt_iff_toNat_lt.2 q)
   have h2 : a.toNat ≠ b.toNat := fun q => e (UInt8.toNat_inj.1 q)
   exact UInt8.lt_iff_toNat_lt.2 (by omega)
theorem bl_pre : ∀ {x y : List UInt8}, hpB x y = true → Op.bytesLess x y = false
 | _, [], _ => by simp [Op.bytesLess]
 | [], b :: y, h => by simp [hpB] at h
 | a :: x, b :: y, h => by
  have h' : a = b ∧ hpB x y = true := by
   simp only [hpB, Bool.and_eq_true, decide_eq_true_eq, beq_iff_eq, List.length_cons, List.take_succ_cons, List.cons.injEq] at h ⊢
   exact ⟨h.2.1, by omega, h.2.2⟩
  obtain ⟨rfl, h'⟩ := h'
  simp [Op.bytesLess, bl_pre h']
theorem code_facts {p : List uT1} {k : Nat} {c : uT1} (h : countryE p k c = 0) : (0 < k → Op.bytesLess c.Code (p[k - 1]?.getD c).Code = false ∧ (c.Code == (p[k - 1]?.getD c).Code) = false) ∧ (p.take k).any (fun o => hpB c.Code o.Code) = false := by
 unfold countryE at h;simp only [] at h;cases h1 : !digB c.Code 1 3 || (((c.Code[0]?.getD 0).toNat : Int) == 48) with
 | true => rw [h1] at h; simp at h
 | false =>
  rw [h1] at h;simp only [cond_false] at h;cases h2 : decide (0 < k) && (Op.bytesLess c.Code (p[k - 1]?.getD c).Code || c.Code == (p[k - 1]?.getD c).Code) with
  | true => rw [h2] at h; simp at h
  | false =>
   rw [h2] at h;simp only [cond_false] at h;refine ⟨fun h0 => ?_, ?_⟩
   ·rw [decide_eq_true h0, Bool.true_and, Bool.or_eq_false_iff] at h2; exact h2
   ·cases h3 : (p.take k).any (fun o => hpB c.Code o.Code) with
    | false => rfl
    | true => rw [h3] at h; simp at h
theorem apart_of {p : List uT1} (h : planE p = 0) : Apart p := by
 have h0 : errL (countryE p) 0 p = 0 := by
  unfold planE at h;split at h
  ·simp at h
  ·exact h
 have hf : ∀ (k : Nat) (hk : k < p.length), countryE p k p[k] = 0 := fun k hk => by
  have := errL_zero h0 k p[k] (by simp [hk])
  simpa using this
 have step : ∀ (k : Nat) (hk : k + 1 < p.length), Op.bytesLess (p[k]'(by omega)).Code p[k + 1].Code = true := fun k hk => by
  have := (code_facts (hf (k + 1) hk)).1 (by omega)
  simp only [Nat.add_sub_cancel, show k < p.length from by omega, getElem?_pos, Option.getD_some] at this;exact bl_tot this.1 this.2
 have chain : ∀ (d i : Nat) (hj : i + d + 1 < p.length), Op.bytesLess (p[i]'(by omega)).Code p[i + d + 1].Code = true := by
  intro d;induction d with
  | zero => intro i hj; exact step i hj
  | succ d ih =>
   intro i hj;exact bl_trans (ih i (by omega)) (step (i + d + 1) hj)
 unfold Apart;rw [List.pairwise_iff_getElem];intro i j hi hj hij;have hc := (code_facts (hf j hj)).2;have hl := chain (j - i - 1) i (by omega);have hl : Op.bytesLess p[i].Code p[j].Code = true := by
  have e : i + (j - i - 1) + 1 = j := by omega
  simpa only [e] using hl
 refine ⟨?_, ?_⟩
 ·cases hq : hpB p[i].Code p[j].Code
  ·rfl
  ·rw [bl_pre hq] at hl; simp at hl
 ·have := List.any_eq_false.1 hc p[i] (by
   rw [List.mem_take_iff_getElem];exact ⟨i, by omega, rfl⟩)
  simpa using this

/- What is drawn. -/
theorem some_in (s : uT0) (l : List (List UInt8)) (k : Int) (hs : SOk s k) (hk : k ≤ 1000000) (hl : 0 < l.length) (hl2 : l.length ≤ 1000) : ∃ r, uF14 s l = some (⟨s.L, s.at_ + 1⟩, r) ∧ r ∈ l := by
 obtain ⟨r, e, r1, r2⟩ := next_is s l.length k hs (by omega) (by omega) (by omega);obtain ⟨x, hx, hm⟩ := idx_of r1 r2;exact ⟨x, by simp [uF14, e, hx, bnd], hm⟩
theorem odd_is (s : uT0) (lo hi k : Int) (hs : SOk s k) (hk : k ≤ 100000) (h1 : lo ≤ hi) (h2 : -1000000 ≤ lo) (h3 : hi ≤ 1000000) : ∃ s' r, uF16 s lo hi = some (s', r) ∧ SOk s' (k + 2) ∧ -2000000000000 ≤ r ∧ r ≤ 2000000000000 := by
 obtain ⟨b, e⟩ := flip_is s 12 k hs (by omega) (by omega) (by omega);unfold uF16;rw [e];simp only [Option.bind_some];cases b
 ·obtain ⟨r, e2, r1, r2⟩ := range_is ⟨s.L, s.at_ + 1⟩ lo hi (k + 1) hs.one (by omega) h1 (by omega) (by omega)
  refine ⟨⟨s.L, s.at_ + 1 + 1⟩, r, by simp only [cond_false, e2, Option.bind_some], by have := hs.one.one; rwa [show k + 1 + 1 = k + 2 from by omega] at this, by omega, by omega⟩
 ·obtain ⟨r, e2, hr⟩ := pick_in ⟨s.L, s.at_ + 1⟩ [(IntKind.wrap .i64 (lo - 1)), (IntKind.wrap .i64 (hi + 1)), lo, hi, -1099511627776, 1099511627776] (k + 1) hs.one (by omega) (by simp) (by simp)
  refine ⟨⟨s.L, s.at_ + 1 + 1⟩, r, by simp only [cond_true, e2, Option.bind_some], by have := hs.one.one; rwa [show k + 1 + 1 = k + 2 from by omega] at this, ?_⟩;rw [w64 (by omega) (by omega), w64 (by omega) (by omega)] at hr;simp only [List.mem_cons, List.not_mem_nil, or_false] at hr;rcases hr with rfl | rfl | rfl | rfl | rfl | rfl <;> omega

def SmallC (c : uT1) : Prop := c.Code.length ≤ 10 ∧ c.Abroad.length ≤ 10 ∧ c.Trunk.length ≤ 10 ∧ (1 ≤ c.Areas.length ∧ c.Areas.length ≤ 10) ∧ ∀ a ∈ c.Areas, a.Prefix.length ≤ 10 ∧ -2000000000000 ≤ a.Low ∧ a.Low ≤ 2000000000000 ∧ -2000000000000 ≤ a.High ∧ a.High ≤ 2000000000000
def SmallP (p : List uT1) : Prop := p.length = 3 ∧ ∀ c ∈ p, SmallC c
theorem SmallP.good {p : List uT1} (h : SmallP p) : GoodP p := by
 refine ⟨by have := h.1; omega, fun c hc => ?_⟩;obtain ⟨h1, h2, h3, h4, h5⟩ := h.2 c hc;refine ⟨by omega, by omega, by omega, by have := h4.2; omega, fun a ha => ?_⟩;obtain ⟨g1, g2, g3, g4, g5⟩ := h5 a ha;exact ⟨by omega, by omega, by omega, by omega, by omega⟩
theorem small_len {l : List (List UInt8)} (h : l.all (fun x => decide (x.length ≤ 10)) = true) {x : List UInt8} (hx : x ∈ l) : x.length ≤ 10 := by
 have := List.all_eq_true.1 h x hx; simpa using this
theorem cnl_small {s1 s2 : List UInt8} (h1 : s1.length ≤ 10) (h2 : s2.length ≤ 10) : SmallP (cnl s1 s2) := by
 refine ⟨rfl, fun c hc => ?_⟩;simp only [cnl, List.mem_cons, List.not_mem_nil, or_false] at hc;rcases hc with rfl | rfl | rfl
 ·refine ⟨by simp, by simp, h1, by simp [cnA0], fun a ha => ?_⟩
  simp only [cnA0, List.mem_cons, List.not_mem_nil, or_false] at ha;rcases ha with rfl | rfl <;> simp
 ·refine ⟨by simp, by simp, by simp, by simp [cnA1], fun a ha => ?_⟩
  simp only [cnA1, List.mem_cons, List.not_mem_nil, or_false] at ha;rcases ha with rfl | rfl | rfl <;> simp
 ·refine ⟨by simp, h2, by simp, by simp [cnA2], fun a ha => ?_⟩
  simp only [cnA2, List.mem_cons, List.not_mem_nil, or_false] at ha;rcases ha with rfl | rfl <;> simp
theorem cnl_areas (s1 s2 : List UInt8) : ∀ c ∈ cnl s1 s2, 1 ≤ c.Areas.length ∧ c.Areas.length ≤ 3 := by
 intro c hc;simp only [cnl, List.mem_cons, List.not_mem_nil, or_false] at hc;rcases hc with rfl | rfl | rfl <;> simp [cnA0, cnA1, cnA2]
theorem small_set {p : List uT1} (h : SmallP p) {c : uT1} (hc : SmallC c) (k : Nat) : SmallP (p.set k c) := by
 refine ⟨by simp [h.1], fun b hb => ?_⟩;rcases List.mem_or_eq_of_mem_set hb with hb | rfl
 ·exact h.2 b hb
 ·exact hc
theorem right_is (s : uT0) (k : Int) (hs : SOk s k) (hk : k ≤ 1000) : ∃ s1 s2, uF11 s = some (⟨s.L, s.at_ + 1 + 1⟩, cnl s1 s2) ∧ s1.length ≤ 10 ∧ s2.length ≤ 10 := by
 obtain ⟨s1, e1, m1⟩ := some_in s [([49] : List UInt8), ([49] : List UInt8), ([] : List UInt8)] k hs (by omega) (by simp) (by simp);obtain ⟨s2, e2, m2⟩ := some_in ⟨s.L, s.at_ + 1⟩ [([48, 48] : List UInt8), ([48] : List UInt8)] (k + 1) hs.one (by omega) (by simp) (by simp);refine ⟨s1, s2, ?_, small_len (by decide) m1, small_len (by decide) m2⟩;unfold uF11;simp only [e1, e2, Option.bind_some];rfl
theorem countries_is (s : uT0) (k : Int) (hs : SOk s k) (hk : k ≤ 1000) : ∃ s' p, uF4 s = some (s', p) ∧ SOk s' (k + 12) ∧ SmallP p := by
 obtain ⟨s1, s2, e1, h1, h2⟩ := right_is s k hs hk;have hp := cnl_small h1 h2;have har := cnl_areas s1 s2;generalize cnl s1 s2 = p at e1 hp har;have o2 := hs.one.one;obtain ⟨b, e3⟩ := flip_is ⟨s.L, s.at_ + 1 + 1⟩ 12 (k + 1 + 1) o2 (by omega) (by omega) (by omega);have o3 := o2.one;unfold uF4;simp only [e1, e3, Option.bind_some];cases b
 ·exact ⟨_, p, rfl, o3.up (by omega), hp⟩
 ·simp only [cond_true]
  obtain ⟨n, e4, n1, n2⟩ := next_is ⟨s.L, s.at_ + 1 + 1 + 1⟩ 3 (k + 1 + 1 + 1) o3 (by omega) (by omega) (by omega);have o4 := o3.one;obtain ⟨w, e5, w1, w2⟩ := next_is ⟨s.L, s.at_ + 1 + 1 + 1 + 1⟩ 6 (k + 1 + 1 + 1 + 1) o4 (by omega) (by omega) (by omega);have o5 := o4.one;obtain ⟨c, ec, hcm⟩ := idx_of (l := p) n1 (by have := hp.1; omega);obtain ⟨c1, c2, c3, c4, c5⟩ := hp.2 c hcm;simp only [e4, e5, ec, Option.bind_some];generalize ht : (⟨s.L, s.at_ + 1 + 1 + 1 + 1 + 1⟩ : uT0) = t at o5;have some_ : ∀ (l : List (List UInt8)), 0 < l.length → l.length ≤ 1000 → l.all (fun x => decide (x.length ≤ 10)) = true → ∃ r, uF14 t l = some (⟨t.L, t.at_ + 1⟩, r) ∧ r.length ≤ 10 := fun l g1 g2 g3 => by
   obtain ⟨r, er, hr⟩ := some_in t l _ o5 (by omega) g1 g2;exact ⟨r, er, small_len g3 hr⟩
  have o6 := o5.one;cases w == 0
  ·simp only [cond_false]
   cases w == 1
   ·simp only [cond_false]
    cases w == 2
    ·simp only [cond_false]
     cases w == 3
     ·simp only [cond_false]
      cases w == 4
      ·simp only [cond_false]
       refine ⟨_, _, rfl, o5.up (by omega), ⟨by simp [hp.1], fun b hb => hp.2 b (by simpa using hb)⟩⟩
      ·simp only [cond_true]
       obtain ⟨t1, lo, el, ol, l1, l2⟩ := odd_is t 1 6 _ o5 (by omega) (by omega) (by omega) (by omega);obtain ⟨t2, hi, eh, oh, g1, g2⟩ := odd_is t1 3 14 _ ol (by omega) (by omega) (by omega) (by omega);simp only [el, eh, Option.bind_some];cases hA : c.Areas with
       | nil => have := (har c hcm).1; rw [hA] at this; simp at this
       | cons a l =>
        refine ⟨_, _, rfl, oh.up (by omega), small_set hp (c := { c with Areas := { a with Low := lo, High := hi } :: l }) ⟨c1, c2, c3, ?_, ?_⟩ _⟩
        ·rw [hA] at c4; simpa using c4
        ·intro b hb
         simp only [List.mem_cons] at hb;rcases hb with rfl | hb
         ·have := c5 a (by rw [hA]; simp)
          exact ⟨this.1, l1, l2, g1, g2⟩
         ·exact c5 b (by rw [hA]; simp [hb])
     ·simp only [cond_true]
      obtain ⟨r, er, hr⟩ := some_ [([] : List UInt8), [56, 57, 49], [57, 57], [48], [49, 50, 51, 52, 53, 54, 55, 56, 57], [51, 48]] (by simp) (by simp) (by decide);obtain ⟨lo, el, hl⟩ := pick_in ⟨t.L, t.at_ + 1⟩ [3, 2, 9] _ o6 (by omega) (by simp) (by simp);obtain ⟨hi, eh, hh⟩ := pick_in ⟨t.L, t.at_ + 1 + 1⟩ [9, 2, 14] _ o6.one (by omega) (by simp) (by simp);simp only [er, el, eh, Option.bind_some];refine ⟨_, _, rfl, o6.one.one.up (by omega), small_set hp (c := { c with Areas := c.Areas ++ [⟨r, lo, hi⟩] }) ⟨c1, c2, c3, ?_, ?_⟩ _⟩
      ·have := (har c hcm).2; simp only [List.length_append, List.length_cons, List.length_nil]; omega
      ·intro b hb
       simp only [List.mem_append, List.mem_cons, List.not_mem_nil, or_false] at hb;rcases hb with hb | rfl
       ·exact c5 b hb
       ·simp only [List.mem_cons, List.not_mem_nil, or_false] at hl hh
        exact ⟨hr, by simp only []; omega, by simp only []; omega, by simp only []; omega, by simp only []; omega⟩
    ·simp only [cond_true]
     obtain ⟨r, er, hr⟩ := some_ [([48, 48, 48] : List UInt8), [48, 48], [120], [51]] (by simp) (by simp) (by decide);simp only [er, Option.bind_some];exact ⟨_, _, rfl, o6.up (by omega), small_set hp (c := { c with Trunk := r }) ⟨c1, c2, hr, c4, c5⟩ _⟩
   ·simp only [cond_true]
    obtain ⟨r, er, hr⟩ := some_ [([] : List UInt8), [48, 48, 48, 48, 48], [120], [48], [51], [48, 51], [48, 51, 48]] (by simp) (by simp) (by decide);simp only [er, Option.bind_some];exact ⟨_, _, rfl, o6.up (by omega), small_set hp (c := { c with Abroad := r }) ⟨c1, hr, c3, c4, c5⟩ _⟩
  ·simp only [cond_true]
   obtain ⟨r, er, hr⟩ := some_ [([] : List UInt8), [48], [52], [49, 50, 51, 52], [97], [52, 57]] (by simp) (by simp) (by decide);simp only [er, Option.bind_some];exact ⟨_, _, rfl, o6.up (by omega), small_set hp (c := { c with Code := r }) ⟨hr, c2, c3, c4, c5⟩ _⟩
theorem range_w (s : uT0) (lo hi k : Int) (hs : SOk s k) (hk : k ≤ 100000) (h2 : -4000000000000 ≤ lo) (h2' : lo ≤ 4000000000000) (h3 : hi ≤ 4000000000000) :
  ∃ s' r, uF21 s lo hi = some (s', r) ∧ SOk s' (k + 1) ∧ lo ≤ r ∧ (r ≤ hi ∨ r ≤ lo) := by
 by_cases hlt : hi < lo
 ·exact ⟨s, lo, by simp [uF21, hlt], hs.up (by omega), by omega, .inr (by omega)⟩
 ·obtain ⟨r, e, r1, r2⟩ := next_is s (hi - lo + 1) k hs (by omega) (by omega) (by omega)
  refine ⟨⟨s.L, s.at_ + 1⟩, lo + r, ?_, hs.one, by omega, .inl (by omega)⟩;simp (disch := omega) [uF21, hlt, w64, e, bnd]
theorem row_is (n : Int) (s : uT0) (k : Int) (h0 : 0 ≤ n) (hn : n ≤ 100) (hs : SOk s k) (hk : k ≤ 10000) : ∃ s' d, uF20a s n = some (s', d) ∧ SOk s' (k + n) ∧ (d.length : Int) ≤ n := by
 obtain ⟨e, e1, e2, e3⟩ := loopO_ind (step := fun s : List UInt8 × Int × uT0 => uF20 n s.1 s.2.1 s.2.2)
  (fun s => 0 ≤ s.2.1 ∧ s.2.1 ≤ n ∧ (s.1.length : Int) ≤ s.2.1 ∧ SOk s.2.2 (k + s.2.1)) (fun e => SOk e.2 (k + n) ∧ (e.1.length : Int) ≤ n) (fun s => (n - s.2.1).toNat) (by
   rintro ⟨d, w, t⟩ ⟨g1, g2, g3, g4⟩;simp only [] at g1 g2 g3 g4;by_cases hw : w < n
   ·obtain ⟨r, er, hr⟩ := some_in t [([48] : List UInt8), [49], [50], [51], [48], [57], [53]] (k + w) g4 (by omega) (by simp) (by simp)
    have hl : r.length = 1 := by
     simp only [List.mem_cons, List.not_mem_nil, or_false] at hr;rcases hr with rfl | rfl | rfl | rfl | rfl | rfl | rfl <;> rfl
    refine .inr ⟨(d ++ r, w + 1, ⟨t.L, t.at_ + 1⟩), ?_, ⟨by simp only []; omega, by simp only []; omega, by simp only [List.length_append, hl]; omega, ?_⟩, by simp only []; omega⟩
    ·simp only [uF20, decide_eq_true hw, cond_true, er, Option.bind_some, sadd_of (show d.length + r.length ≤ 4611686018427387904 by omega), w64 (n := w + 1) (by omega) (by omega)]
    ·have := g4.one; rwa [show k + w + 1 = k + (w + 1) from by omega] at this
   ·refine .inl ⟨(d, t), ?_, ?_, ?_⟩
    ·simp only [uF20, decide_eq_false hw, cond_false]
    ·exact g4.up (by omega)
    ·simp only []; omega) ([], 0, s) ⟨by simp, by simpa using h0, by simp, by simpa using hs⟩
 refine ⟨e.2, e.1, ?_, e2, e3⟩;unfold uF20a;simp only [bnd, e1, Option.bind_some]
theorem number_is (s : uT0) (p : List uT1) (k : Int) (hs : SOk s k) (hk : k ≤ 1000) (hp : SmallP p) : ∃ s' n, uF5 s p = some (s', n) ∧ SOk s' (k + 40) ∧ n.length ≤ 100 := by
 obtain ⟨b, e1⟩ := flip_is s 6 k hs (by omega) (by omega) (by omega);have o1 := hs.one;have hl : (p.length : Int) = 3 := by have := hp.1; omega
 have h3 : (p.length == 0) = false := by rw [hp.1]; rfl
 have hany : uF18 p (fun a0 => uF19 a0) = some (p.any fun c => ((c.Areas.length : Int) == 0)) :=
  any_is _ _ _ (fun a _ => by simp only [uF19, bnd]) (by rw [hp.1]; omega)
 have e2 : (bif (b || ((p.length : Int) == 0)) then (some true) else ((uF18 p (fun a0 => uF19 a0)).bind fun y33 => some y33)) = some (b || p.any fun c => ((c.Areas.length : Int) == 0)) := by
  rw [hany, hl];cases b <;> simp
 unfold uF5;simp only [bnd, e1, Option.bind_some, e2];cases hb : b || p.any fun c => ((c.Areas.length : Int) == 0)
 ·simp only [cond_false]
  rw [Bool.or_eq_false_iff] at hb;obtain ⟨i, e3, i1, i2⟩ := next_is ⟨s.L, s.at_ + 1⟩ p.length (k + 1) o1 (by omega) (by omega) (by omega);have o2 := o1.one;obtain ⟨c, ec, hc⟩ := idx_of (l := p) i1 i2;obtain ⟨c1, c2, c3, c4, c5⟩ := hp.2 c hc;have hne : c.Areas.length ≠ 0 := by
   have := List.any_eq_false.1 hb.2 c hc
   simpa using this
  obtain ⟨j, e4, j1, j2⟩ := next_is ⟨s.L, s.at_ + 1 + 1⟩ c.Areas.length (k + 1 + 1) o2 (by omega) (by omega) (by omega);have o3 := o2.one;obtain ⟨a, ea, ha⟩ := idx_of (l := c.Areas) j1 j2;obtain ⟨a1, a2, a3, a4, a5⟩ := c5 a ha;have hs1 : sadd [43] c.Code = some (43 :: c.Code) := sadd_of (by simp; omega);have hs2 : sadd (43 :: c.Code) a.Prefix = some (43 :: c.Code ++ a.Prefix) := sadd_of (by simp; omega);simp only [e3, ec, e4, ea, Option.bind_some, hs1, hs2];have m1 : -4000000000000 ≤ gmin a.Low 12 ∧ gmin a.Low 12 ≤ 12 := by unfold gmin; split <;> omega
  have m2 : gmin a.High 13 ≤ 13 := by unfold gmin; split <;> omega
  generalize gmin a.Low 12 = lo at m1;generalize gmin a.High 13 = hi at m2;obtain ⟨t, r, e5, o4, r1, r2⟩ := range_w ⟨s.L, s.at_ + 1 + 1 + 1⟩ lo hi _ o3 (by omega) (by omega) (by omega) (by omega);obtain ⟨q, e6, hq⟩ := pick_in t [0, 0, 0, 0, 0, 1, -1] _ o4 (by omega) (by simp) (by simp);have o5 := o4.one;have hq' : -1 ≤ q ∧ q ≤ 1 := by
   simp only [List.mem_cons, List.not_mem_nil, or_false] at hq;omega
  simp only [e5, e6, Option.bind_some];rw [w64 (n := r - (a.Prefix.length : Int)) (by omega) (by omega), w64 (n := r - (a.Prefix.length : Int) + q) (by omega) (by omega)];have m3 : 0 ≤ gmax 0 (r - (a.Prefix.length : Int) + q) ∧ gmax 0 (r - (a.Prefix.length : Int) + q) ≤ 14 := by unfold gmax; split <;> omega
  generalize gmax 0 (r - (a.Prefix.length : Int) + q) = many at m3;obtain ⟨t', d, e7, o6, hd⟩ := row_is many ⟨t.L, t.at_ + 1⟩ _ m3.1 (by omega) o5 (by omega);have hs3 : sadd (43 :: c.Code ++ a.Prefix) d = some (43 :: c.Code ++ a.Prefix ++ d) := sadd_of (by simp; omega);simp only [e7, hs3, Option.bind_some];exact ⟨_, _, rfl, o6.up (by omega), by simp; omega⟩
 ·simp only [cond_true]
  obtain ⟨r, er, hr⟩ := some_in ⟨s.L, s.at_ + 1⟩ [([] : List UInt8), [43], [43, 49, 50, 51], [43, 48, 49, 50, 51], [52, 57, 51, 48, 49], [43, 52, 57, 51, 48, 49, 50, 51, 52, 53, 54, 55, 56, 57, 48, 49, 50, 51], [43, 55, 49, 50, 51], [43, 52, 57, 49, 49], [43, 52, 57, 51, 48], [43, 52, 57, 51, 48, 49, 50, 51, 52, 53, 54, 55, 56], [43, 49, 50, 48, 57]] (k + 1) o1 (by omega) (by simp) (by simp);have hlen : r.length ≤ 100 := by
   have := List.all_eq_true.1 (show ([([] : List UInt8), [43], [43, 49, 50, 51], [43, 48, 49, 50, 51], [52, 57, 51, 48, 49], [43, 52, 57, 51, 48, 49, 50, 51, 52, 53, 54, 55, 56, 57, 48, 49, 50, 51], [43, 55, 49, 50, 51], [43, 52, 57, 49, 49], [43, 52, 57, 51, 48], [43, 52, 57, 51, 48, 49, 50, 51, 52, 53, 54, 55, 56], [43, 49, 50, 48, 57]].all fun x => decide (x.length ≤ 100)) = true by decide) r hr
   simpa using this
  simp only [er, Option.bind_some];exact ⟨_, _, rfl, o1.one.up (by omega), hlen⟩
theorem split_plan {p : List uT1} (hp : GoodP p) (n : List UInt8) (hn : n.length ≤ 100000) : uF6 p n = some (if planE p = 0 then splitE p n else (noParts, planE p)) := by
 obtain ⟨x, e1, e2⟩ := split_is hp n hn;unfold uF6;rw [check_plan hp];simp only [Option.bind_some, e1];by_cases h : planE p = 0
 ·simp only [h, bne_self_eq_false, cond_false, if_true, e2]
 ·have : (planE p != 0) = true := by simpa using h
  simp only [this, cond_true, h, if_false]; rfl

theorem law_PlansSplit (l : List Int) (hl : l.length ≤ 4611686018427387904) : uF3 l = some true := by
 obtain ⟨s1, p, e1, o1, hp⟩ := countries_is ⟨l, 0⟩ 0 ⟨hl, by simp, by simp⟩ (by omega);obtain ⟨s2, n, e2, _, hn⟩ := number_is s1 p _ o1 (by omega) hp;have hg := hp.good;unfold uF3;simp only [e1, e2, Option.bind_some, split_plan hg n (by omega), plan_fault hg, check_plan hg, bne_self_eq_false, cond_false];by_cases h : planE p = 0
 ·simp only [h, beq_self_eq_true, cond_true, ref_split hg (apart_of h) n (by omega), Option.bind_some, if_true, Bool.and_self, Bool.and_true, uF10]
 ·have : (planE p == 0) = false := by simpa using h
  simp only [this, cond_false, Option.bind_some, h, if_false, beq_self_eq_true, noParts, Bool.and_self, cond_true, uF10]
end Go.Proofs.YtoclmbbfdokbhaaDoor
