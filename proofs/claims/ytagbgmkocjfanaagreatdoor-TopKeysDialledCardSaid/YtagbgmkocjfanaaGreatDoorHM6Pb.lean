/-
  WaitsAreTrue: which rule decides, and whether one could; the law.
-/
import Derived.Test.YtagbgmkocjfanaaGreatDoorHM6PKb
import Derived.Test.YtagbgmkocjfanaaGreatDoorHM6Absc
namespace Go.Proofs.YtagbgmkocjfanaaGreatDoor
open Go Go.Abs
set_option maxRecDepth 100000
set_option maxHeartbeats 1000000
theorem begins2_is {es : List Nat} {t : Nat} (h : ∀ e ∈ es, e < 12) (ht : t < 3) (bs : List Nat) (hb : ∀ b ∈ bs, b < 12) (hl : bs.length ≤ 100) :
  ∃ s w, uF94a (PT es t) (bs.map SG) = some (s, w) ∧ (w = true ↔ mt es t bs) ∧ ((∀ i (h : i < bs.length), has (mc es t i) bs[i] = true) → s = (MC (mc es t bs.length) != 0 || ed es t bs.length)) := by
 obtain ⟨s, w, e, hw⟩ := begins_is h ht bs hb hl;refine ⟨s, w, e, hw, fun hall => ?_⟩;have hln : ((List.length (bs.map SG) : Nat) : Int) = (bs.length : Int) := by simp
 have hloop : loopO (fun s : Int => uF94 (PT es t) (bs.map SG) s) 0 = some (.inl ()) := by
  have := loop_for (N := bs.length) (step := fun s : Int => uF94 (PT es t) (bs.map SG) s) (fun k => (k : Int)) (.inl ()) (fun k hk => by
   have hm : k < (bs.map SG).length := by simpa using hk
   have hd : (decide (((k : Nat) : Int) < (bs.length : Int))) = true := by simp; exact hk
   have hbi := hb _ (List.getElem_mem hk);have hid : idx (bs.map SG) (k : Int) = some (SG bs[k]) := by rw [idx_at hm]; simp
   simp only [uF94, hln, hd, cond_true, takes_is h ht, hid, Option.bind_some, only_is hbi, has_is (mc_lt (t := t) h k) hbi, hall k hk, Bool.not_true, cond_false];rw [w64 (by omega) (by omega)]; rfl) (by simp [uF94])
  simpa using this
 simp only [uF94a, hloop, lret, hln, takes_is h ht, Option.bind_some, bnd] at e;have e := Option.some.inj e;exact (Prod.mk.inj e).1.symm

section
variable {p : uT1} {a b : uT3} {R0 R1 R2 : List uT4} {I0 I1 : List (List UInt8)} {most : Int}
noncomputable def fits (a b : uT3) (d : List UInt8) (at_ : Int) (r : uT4) : Bool := match uF79a r.Pattern with
  | some (pt, _) => match uF94a pt d with
    | some (_, w) => w && cnt a b r.Hours at_
    | none => false
  | none => false
theorem decides_is (hp : p.Hours = [a, b]) (ha : HGood a) (ka : a.Key = kHa) (hb : HGood b) (kb : b.Key = kHb) {c : uT2} (hc : CGood c) {bs : List Nat} (h1 : ∀ b ∈ bs, b < 12) (h2 : bs.length ≤ 100) {at_ : Int} (t1 : 0 ≤ at_) (t2 : at_ ≤ 1000000000) :
  ∃ k, uF78 p c (bs.map SG) at_ = some k ∧ -1 ≤ k ∧ k < c.Rules.length ∧ (decide (k < 0) = !(c.Rules.any (fits a b (bs.map SG) at_))) := by
 obtain ⟨c1, c2, _⟩ := hc;obtain ⟨e, e1, e2, e3, e4⟩ := loopO_ind (step := fun s : Int × Int × uT5 => uF78a p c (bs.map SG) at_ s.1 s.2.1 s.2.2)
  (fun q => 0 ≤ q.2.1 ∧ q.2.1 ≤ c.Rules.length ∧ -1 ≤ q.1 ∧ q.1 < q.2.1 + (if q.1 < 0 then 1 else 0) ∧ (decide (q.1 < 0) = !((c.Rules.take q.2.1.toNat).any (fits a b (bs.map SG) at_))) ∧ (0 ≤ q.1 → ∃ es t, q.2.2 = PT es t ∧ (∀ e ∈ es, e < 12) ∧ t < 3 ∧ es.length ≤ 4))
  (fun k => -1 ≤ k ∧ k < c.Rules.length + (if k < 0 then 1 else 0) ∧ (decide (k < 0) = !(c.Rules.any (fits a b (bs.map SG) at_)))) (fun q => (c.Rules.length - q.2.1).toNat) (fun q hq => by
   obtain ⟨k, n, m⟩ := q;obtain ⟨q0, q1, q2, q3, q4, q5⟩ := hq;simp only [] at q0 q1 q2 q3 q4 q5;simp only [uF78a];by_cases hlt : n < c.Rules.length
   ·obtain ⟨i, rfl⟩ := Int.eq_ofNat_of_zero_le q0
    have hi : i < c.Rules.length := by omega
    obtain ⟨⟨es, t, g1⟩, _, _, _, _, g2, _⟩ := c2 _ (List.getElem_mem hi);obtain ⟨s, w, e1, e2, _⟩ := begins2_is g1.2.2.2.1 g1.2.2.2.2 bs h1 h2;have hcn := counts_is p hp ha ka hb kb g2 t1 t2;have hf : fits a b (bs.map SG) at_ c.Rules[i] = (w && cnt a b c.Rules[i].Hours at_) := by simp only [fits, read_is g1, e1]
    have htake : ((c.Rules.take (i + 1)).any (fits a b (bs.map SG) at_)) = ((c.Rules.take i).any (fits a b (bs.map SG) at_) || (w && cnt a b c.Rules[i].Hours at_)) := by
     rw [List.take_succ_eq_append_getElem hi, List.any_append, List.any_cons, List.any_nil, Bool.or_false, hf]
    have hti : ((i : Int) + 1).toNat = i + 1 := by omega
    simp only [hlt, decide_true, cond_true, idx_at hi, Option.bind_some, read_is g1, e1, hcn];cases w with
    | false =>
     simp only [Bool.not_false, cond_true, Option.bind_some];rw [w64 (by omega) (by omega)];refine .inr ⟨_, rfl, ⟨by (try simp only []); omega, by (try simp only []); omega, q2, by (try simp only []); split at q3 <;> simp_all <;> omega, ?_, q5⟩, by (try simp only []); omega⟩;simp only [hti, htake, Bool.false_and, Bool.or_false];simpa using q4
    | true =>
     simp only [Bool.not_true, cond_false, Option.bind_some];cases hcv : cnt a b c.Rules[i].Hours at_ with
     | false =>
      simp only [Bool.not_false, cond_true];rw [w64 (by omega) (by omega)];refine .inr ⟨_, rfl, ⟨by (try simp only []); omega, by (try simp only []); omega, q2, by (try simp only []); split at q3 <;> simp_all <;> omega, ?_, q5⟩, by (try simp only []); omega⟩;simp only [hti, htake, hcv, Bool.true_and, Bool.or_false];simpa using q4
     | true =>
      simp only [Bool.not_true, cond_false];have hnew : (decide ((i : Int) < 0) = !((c.Rules.take ((i : Int) + 1).toNat).any (fits a b (bs.map SG) at_))) := by
       simp only [hti, htake, hcv, Bool.true_and, Bool.or_true];simp
      by_cases hk : k < 0
      ·simp only [hk, decide_true, cond_true, Option.bind_some]
       rw [w64 (by omega) (by omega)];exact .inr ⟨_, rfl, ⟨by (try simp only []); omega, by (try simp only []); omega, by (try simp only []); omega, by (try simp only []); rw [if_neg (by omega)]; omega, hnew, fun _ => ⟨es, t, rfl, g1.2.2.2.1, g1.2.2.2.2, g1.2.2.1⟩⟩, by (try simp only []); omega⟩
      ·obtain ⟨es', t', m1, m2, m3, m4⟩ := q5 (by omega)
       obtain ⟨kk, k1, _⟩ := before_is g1.2.2.2.1 g1.2.2.2.2 g1.2.2.1 m2 m3 m4;simp only [hk, decide_false, cond_false, m1, k1, Option.bind_some];cases hkk : decide (kk < 0) with
       | true =>
        simp only [cond_true];rw [w64 (by omega) (by omega)];exact .inr ⟨_, rfl, ⟨by (try simp only []); omega, by (try simp only []); omega, by (try simp only []); omega, by (try simp only []); rw [if_neg (by omega)]; omega, hnew, fun _ => ⟨es, t, rfl, g1.2.2.2.1, g1.2.2.2.2, g1.2.2.1⟩⟩, by (try simp only []); omega⟩
       | false =>
        simp only [cond_false];rw [w64 (by omega) (by omega)];refine .inr ⟨_, rfl, ⟨by (try simp only []); omega, by (try simp only []); omega, q2, by (try simp only []); split at q3 <;> simp_all <;> omega, ?_, fun _ => ⟨es', t', rfl, m2, m3, m4⟩⟩, by (try simp only []); omega⟩;simp only [hti, htake, hcv, Bool.true_and, Bool.or_true];simpa using hk
   ·have hn : n.toNat = c.Rules.length := by omega
    refine .inl ⟨k, by simp [hlt], q2, by split at q3 <;> simp_all <;> omega, ?_⟩;rw [hn, List.take_length] at q4;exact q4) (-1, 0, ⟨[], 0⟩) ⟨by simp, by simp, by simp, by simp, by simp, by simp⟩
 refine ⟨e, by simp only [uF78, e1, Option.bind_some], e2, ?_, e4⟩;by_cases hk : e < 0
 ·by_cases hz : (c.Rules.length : Int) = 0
  ·simp [hk] at e3; omega
  ·omega
 ·simp [hk] at e3; omega
end
section
variable {p : uT1} {a b : uT3}
theorem map_len (bs : List Nat) : (List.length (bs.map SG) : Int) = (bs.length : Int) := by simp
theorem decide_loop (hp : p.Hours = [a, b]) (ha : HGood a) (ka : a.Key = kHa) (hb : HGood b) (kb : b.Key = kHb) (l : List uT2) (hl : l.length ≤ 3) (hg : ∀ c ∈ l, CGood c) (y : List uT2 × Int) (hy : y.1 = l) {bs : List Nat} (h1 : ∀ b ∈ bs, b < 12) (h2 : bs.length ≤ 20) {at_ : Int} (t1 : 0 ≤ at_) (t2 : at_ ≤ 1000000000) (h0 : uT6) :
  ∃ e, loopO (fun s : Int × uT6 => uF29a p (bs.map SG) at_ y s.1 s.2) (0, h0) = some e ∧ (match e with
   | .inl _ => l.any (fun c => c.Rules.any (fits a b (bs.map SG) at_)) = false
   | .inr r => r.2 ≠ 8 ∧ l.any (fun c => c.Rules.any (fits a b (bs.map SG) at_)) = true) := by
 obtain ⟨e, e1, e2⟩ := loopO_ind (step := fun s : Int × uT6 => uF29a p (bs.map SG) at_ y s.1 s.2)
  (fun q => 0 ≤ q.1 ∧ q.1 ≤ l.length ∧ (l.take q.1.toNat).any (fun c => c.Rules.any (fits a b (bs.map SG) at_)) = false)
  (fun e => match e with
   | .inl _ => l.any (fun c => c.Rules.any (fits a b (bs.map SG) at_)) = false
   | .inr r => r.2 ≠ 8 ∧ l.any (fun c => c.Rules.any (fits a b (bs.map SG) at_)) = true) (fun q => (l.length - q.1).toNat) (fun q hq => by
   obtain ⟨n, h⟩ := q
   obtain ⟨q0, q1, q2⟩ := hq
   simp only [] at q0 q1 q2
   simp only [uF29a, hy]
   by_cases hlt : n < l.length
   ·obtain ⟨i, rfl⟩ := Int.eq_ofNat_of_zero_le q0
    have hi : i < l.length := by omega
    obtain ⟨k, d1, d2, d3, d4⟩ := decides_is hp ha ka hb kb (hg _ (List.getElem_mem hi)) h1 (by omega) t1 t2
    have hti : ((i : Int) + 1).toNat = i + 1 := by omega
    simp only [hlt, decide_true, cond_true, idx_at hi, Option.bind_some, d1]
    by_cases hk : k < 0
    ·simp only [hk, decide_true, cond_true]
     rw [w64 (by omega) (by omega)]
     refine .inr ⟨_, rfl, ⟨by (try simp only []); omega, by (try simp only []); omega, ?_⟩, by (try simp only []); omega⟩
     simp only [hti]
     have hq2 : (l.take i).any (fun c => c.Rules.any (fits a b (bs.map SG) at_)) = false := q2
     rw [List.take_succ_eq_append_getElem hi, List.any_append, hq2]
     simp only [hk, decide_true] at d4
     have : l[i].Rules.any (fits a b (bs.map SG) at_) = false := by
      cases hz : l[i].Rules.any (fits a b (bs.map SG) at_)
      ·rfl
      ·rw [hz] at d4; simp at d4
     simp [this]
    ·have hany : l.any (fun c => c.Rules.any (fits a b (bs.map SG) at_)) = true := by
      rw [List.any_eq_true]
      refine ⟨l[i], List.getElem_mem hi, ?_⟩
      cases hz : l[i].Rules.any (fits a b (bs.map SG) at_)
      ·rw [hz] at d4; simp [hk] at d4
      ·rfl
     obtain ⟨j, rfl⟩ := Int.eq_ofNat_of_zero_le (by omega : 0 ≤ k)
     have hj : j < l[i].Rules.length := by omega
     obtain ⟨_, g1, g2, _⟩ := (hg _ (List.getElem_mem hi)).2.1 _ (List.getElem_mem hj)
     have hpl : (l[i].Rules[j].Prefix).length ≤ 2 := by rcases g2 with h | h | h <;> rw [h] <;> simp
     have hmin : gmin l[i].Rules[j].Strip (bs.length : Int) ≤ bs.length ∧ 0 ≤ gmin l[i].Rules[j].Strip (bs.length : Int) := by unfold gmin; split <;> omega
     have hsub : sub (bs.map SG) (gmin l[i].Rules[j].Strip (bs.length : Int)) ((bs.map SG).length : Int) = some ((bs.map SG).drop (gmin l[i].Rules[j].Strip (bs.length : Int)).toNat) := by
      unfold sub
      rw [if_pos ⟨hmin.2, by rw [map_len]; exact hmin.1, Int.le_refl _⟩, Int.toNat_natCast, List.take_length]
     rw [map_len] at hsub
     simp only [hk, decide_false, cond_false, idx_at hj, Option.bind_some, map_len, hsub]
     rw [sadd_of (by simp; omega)]
     simp only [Option.bind_some]
     have hlen : (decide (((List.length (l[i].Rules[j].Prefix ++ (bs.map SG).drop (gmin l[i].Rules[j].Strip (bs.length : Int)).toNat) : Nat) : Int) > 30)) = false := by simp; omega
     simp only [hlen, cond_false]
     cases ((l[i].Rules[j].Prefix ++ (bs.map SG).drop (gmin l[i].Rules[j].Strip (bs.length : Int)).toNat) == ([] : List UInt8)) && (l[i].Rules[j].To == 1 || l[i].Rules[j].To == 2) with
     | true => exact .inl ⟨_, rfl, by simp, hany⟩
     | false => exact .inl ⟨_, rfl, by simp, hany⟩
   ·have hn : n.toNat = l.length := by omega
    refine .inl ⟨.inl h, by simp [hlt], ?_⟩
    rw [hn, List.take_length] at q2
    exact q2) (0, h0) ⟨by simp, by simp, by simp⟩
 exact ⟨e, e1, e2⟩
end
theorem within_is (n lo hi : Int) : uF193 n lo hi = some (decide (n ≥ lo) && decide (n ≤ hi)) := rfl
theorem pick_is (s : uT0) (a b k : Int) (hs : SOk s k) (hk : k ≤ 1000) : ∃ r, uF27 s [a, b] = some (⟨s.L, s.at_ + 1⟩, r) ∧ (r = a ∨ r = b) := by
 obtain ⟨r, e, r1, r2⟩ := next_is s 2 k hs (by omega) (by omega) (by omega);unfold uF27;have : ((List.length [a, b] : Nat) : Int) = 2 := rfl;rw [this, e];rcases (by omega : r = 0 ∨ r = 1) with rfl | rfl
 ·exact ⟨a, rfl, .inl rfl⟩
 ·exact ⟨b, rfl, .inr rfl⟩
theorem isSample_is (n : Int) (h : -32768 ≤ n ∧ n ≤ 32767) : uF145 n = some true := by
 simp [uF145, within_is, h.1, h.2]
def Good (x : List Int) : Prop := ∀ a ∈ x, -32768 ≤ a ∧ a ≤ 32767
theorem checkS_is (x : List Int) (hl : x.length ≤ 20000) (h : Good x) : uF83 x = some 0 := by
 have hn : ¬ ((x.length : Int) > 20000) := by omega
 have := loop_for (N := x.length) (step := fun s : Int => uF83a x s) (fun k => (k : Int)) (.inl ()) (fun k hk => by
  have hk' : (k : Int) < x.length := by omega
  have hg := isSample_is x[k] (h _ (List.getElem_mem hk));simp (disch := omega) [uF83a, hk, idx_at hk, hg, w64]) (by simp [uF83a])
 simp only [Int.natCast_zero] at this;simp [uF83, hn, this, lret]

/-! The tones. -/
def flr (x : Int) : Int := (uF192 x 16384).getD 0
theorem flr_is (x : Int) : uF192 x 16384 = some (flr x) := by
 unfold flr;have : ∃ v, uF192 x 16384 = some v := by
  unfold uF192;simp only [grem, gquo, show ¬ ((16384 : Int) = 0) from by decide, if_false, Option.bind_some, bnd];cases decide (x.tmod 16384 < 0) <;> exact ⟨_, rfl⟩
 obtain ⟨v, e⟩ := this;rw [e]; rfl
def nx (c a b : Int) : Int := IntKind.wrap .i64 (flr (IntKind.wrap .i64 (c * b)) - a)
def humA (c : Int) : Nat → Int → Int → List Int
  | 0, _, _ => []
  | n + 1, a, b => a :: humA c n b (nx c a b)
def nth (c : Int) : Nat → Int → Int → Int
  | 0, a, _ => a
  | n + 1, a, b => nth c n b (nx c a b)
theorem humA_len (c : Int) : ∀ (n : Nat) (a b : Int), (humA c n a b).length = n
 | 0, _, _ => rfl
 | n + 1, a, b => by simp [humA, humA_len c n]
theorem humA_succ (c : Int) : ∀ (n : Nat) (a b : Int), humA c (n + 1) a b = humA c n a b ++ [nth c n a b]
 | 0, _, _ => rfl
 | n + 1, a, b => by rw [humA, humA_succ c n, humA, nth]; rfl
theorem humA_get (c : Int) : ∀ (n k : Nat) (a b : Int), k < n → (humA c n a b)[k]? = some (nth c k a b)
 | 0, _, _, _, h => absurd h (by omega)
 | n + 1, 0, _, _, _ => rfl
 | n + 1, k + 1, a, b, h => by rw [humA, nth, List.getElem?_cons_succ, humA_get c n k b _ (by omega)]
theorem nth_rec (c : Int) : ∀ (k : Nat) (a b : Int), nth c (k + 2) a b = nx c (nth c k a b) (nth c (k + 1) a b)
 | 0, _, _ => rfl
 | k + 1, a, b => nth_rec c k b (nx c a b)
def humL (c : Int) (n : Nat) : List Int := humA c n 0 (IntKind.wrap .i64 (c.tdiv 8))
theorem hum_is (c : Int) (n : Nat) (hn : n ≤ 100000) : uF142 c n = some (humL c n) := by
 have := loop_for (N := n) (step := fun s : List Int × Int => uF142a c n s.1 s.2) (fun k => (humL c k, (k : Int))) (humL c n) (fun k hk => by
  have hk' : (k : Int) < n := by omega
  have hl : (humL c k).length = k := humA_len _ _ _ _;have ap : ∀ x : Int, app 8 (humL c k) [x] = some (humL c k ++ [x]) := fun x => app_of (by simp [hl]; omega) (by simp [hl]; omega);have w1 : IntKind.wrap .i64 ((k : Int) + 1) = ((k + 1 : Nat) : Int) := by rw [w64 (by omega) (by omega)]; omega
  simp only [uF142a, hk', decide_true, cond_true, bnd, ap, Option.bind_some, w1];match k, hl, hk with
  | 0, _, _ => rfl
  | 1, _, _ => rfl
  | k + 2, hl, hk =>
   have c0 : (((k + 2 : Nat) : Int) == 0) = false := by simp; omega
   have c1 : (((k + 2 : Nat) : Int) == 1) = false := by simp; omega
   have i1 : idx (humL c (k + 2)) (IntKind.wrap .i64 (((k + 2 : Nat) : Int) - 1)) = some (nth c (k + 1) 0 (IntKind.wrap .i64 (c.tdiv 8))) := by
    rw [w64 (by omega) (by omega), show ((k + 2 : Nat) : Int) - 1 = ((k + 1 : Nat) : Int) from by omega, idx_nat]; exact humA_get _ _ _ _ _ (by omega)
   have i2 : idx (humL c (k + 2)) (IntKind.wrap .i64 (((k + 2 : Nat) : Int) - 2)) = some (nth c k 0 (IntKind.wrap .i64 (c.tdiv 8))) := by
    rw [w64 (by omega) (by omega), show ((k + 2 : Nat) : Int) - 2 = ((k : Nat) : Int) from by omega, idx_nat]; exact humA_get _ _ _ _ _ (by omega)
   simp only [c0, c1, cond_false, i1, i2, Option.bind_some, flr_is]
   have := humA_succ c (k + 2) 0 (IntKind.wrap .i64 (c.tdiv 8))
   rw [nth_rec] at this;rw [show humL c (k + 2 + 1) = humL c (k + 2) ++ [nx c (nth c k 0 (IntKind.wrap .i64 (c.tdiv 8))) (nth c (k + 1) 0 (IntKind.wrap .i64 (c.tdiv 8)))] from this];rfl) (by simp [uF142a])
 simp only [Int.natCast_zero] at this;unfold uF142;rw [show (([] : List Int), (0 : Int)) = (humL c 0, 0) from rfl, this];rfl
def wadd (x y : Int) : Int := IntKind.wrap .i64 (x + y)
def zl : Nat → List Int → List Int → List Int
  | 0, a, _ => a
  | k + 1, x :: a, y :: b => wadd x y :: zl k a b
  | _ + 1, a, _ => a
theorem zl_get : ∀ (k : Nat) (a b : List Int), a.length = b.length → (zl k a b)[k]? = a[k]?
 | 0, _, _, _ => rfl
 | k + 1, x :: a, y :: b, h => by simp [zl]; exact zl_get k a b (by simpa using h)
 | _ + 1, [], _, _ => by simp [zl]
 | _ + 1, _ :: _, [], h => by simp at h
theorem zl_set : ∀ (k : Nat) (a b : List Int) (x y : Int), a.length = b.length → a[k]? = some x → b[k]? = some y → (zl k a b).set k (wadd x y) = zl (k + 1) a b
 | 0, _ :: _, _ :: _, x, y, _, h1, h2 => by simp at h1 h2; subst h1; subst h2; simp [zl]
 | k + 1, _ :: a, _ :: b, x, y, h, h1, h2 => by simp [zl]; exact zl_set k a b x y (by simpa using h) (by simpa using h1) (by simpa using h2)
 | 0, [], _, _, _, _, h1, _ => by simp at h1
 | 0, _ :: _, [], _, _, h, _, _ => by simp at h
 | _ + 1, [], _, _, _, _, h1, _ => by simp at h1
 | _ + 1, _ :: _, [], _, _, h, _, _ => by simp at h
theorem zl_all : ∀ (a b : List Int), a.length = b.length → zl a.length a b = List.zipWith wadd a b
 | [], [], _ => rfl
 | x :: a, y :: b, h => by simp [zl]; exact zl_all a b (by simpa using h)
 | [], _ :: _, h => by simp at h
 | _ :: _, [], h => by simp at h
def rowN : List Int := [27980, 26956, 25701, 24219]
def colN : List Int := [19073, 16325, 13085, 9315]
def pad : List UInt8 := [49, 50, 51, 65, 52, 53, 54, 66, 55, 56, 57, 67, 42, 48, 35, 68]
def toneL (k : Nat) (n : Nat) : List Int := List.zipWith wadd (humL (rowN.getD (k / 4) 0) n) (humL (colN.getD (k % 4) 0) n)
theorem pad_ix : (List.range 16).all (fun k => uF141 pad ((pad.getD k 0).toNat : Int) == some (k : Int)) = true := by kernel_rfl
theorem tone_is (k n : Nat) (hk : k < 16) (hn : n ≤ 100000) : uF82a ((pad.getD k 0).toNat : Int) n = some (toneL k n, true) := by
 have h1 := List.all_eq_true.1 pad_ix k (List.mem_range.2 hk);have h1 : uF141 pad ((pad.getD k 0).toNat : Int) = some (k : Int) := by simpa using h1
 have hq : IntKind.wrap .i64 (Int.tdiv (k : Int) 4) = ((k / 4 : Nat) : Int) := by rw [Int.tdiv_eq_ediv_of_nonneg (by omega), w64 (by omega) (by omega)]; omega
 have hr : Int.tmod (k : Int) 4 = ((k % 4 : Nat) : Int) := by rw [Int.tmod_eq_emod_of_nonneg (by omega)]; omega
 have i1 : idx rowN ((k / 4 : Nat) : Int) = some (rowN.getD (k / 4) 0) := by
  rw [idx_nat, List.getD_eq_getElem?_getD];have : k / 4 < rowN.length := by simp [rowN]; omega
  rw [List.getElem?_eq_getElem this]; rfl
 have i2 : idx colN ((k % 4 : Nat) : Int) = some (colN.getD (k % 4) 0) := by
  rw [idx_nat, List.getD_eq_getElem?_getD];have : k % 4 < colN.length := by simp [colN]; omega
  rw [List.getElem?_eq_getElem this]; rfl
 generalize hr1 : rowN.getD (k / 4) 0 = r at i1;generalize hc1 : colN.getD (k % 4) 0 = c at i2;have e1 : (humL r n).length = n := humA_len _ _ _ _;have e2 : (humL c n).length = n := humA_len _ _ _ _;have lp := loop_for (N := n) (step := fun s : List Int × Int => uF82 (humL r n) (humL c n) s.1 s.2) (fun j => (zl j (humL r n) (humL c n), (j : Int))) (List.zipWith wadd (humL r n) (humL c n)) (fun j hj => by
  have hj' : (j : Int) < ((humL r n).length : Int) := by omega
  have g1 : (humL r n)[j]? = some _ := List.getElem?_eq_getElem (by omega);have g2 : (humL c n)[j]? = some _ := List.getElem?_eq_getElem (by omega);have z1 := zl_get j (humL r n) (humL c n) (by omega);have z2 := zl_set j (humL r n) (humL c n) _ _ (by omega) g1 g2;simp only [uF82, hj', decide_true, cond_true, idx_nat, z1, g1, g2, Option.bind_some, bnd, Int.toNat_natCast];rw [w64 (n := (j : Int) + 1) (by omega) (by omega)];rw [← z2];rfl) (by
   have hj' : ¬ ((n : Nat) : Int) < ((humL r n).length : Int) := by omega
   have za := zl_all (humL r n) (humL c n) (by omega);rw [e1] at za;simp only [uF82, hj', decide_false, cond_false, za])
 have hneg : ¬ ((k : Int) < 0) := by omega
 unfold uF82a;rw [show ([49, 50, 51, 65, 52, 53, 54, 66, 55, 56, 57, 67, 42, 48, 35, 68] : List UInt8) = pad from rfl, h1];simp only [Option.bind_some, hneg, decide_false, cond_false, uF143, uF144];rw [hq, hr, show ([27980, 26956, 25701, 24219] : List Int) = rowN from rfl, show ([19073, 16325, 13085, 9315] : List Int) = colN from rfl, i1, i2];simp only [Option.bind_some, hum_is _ n hn];rw [show (humL r n, (0 : Int)) = (zl 0 (humL r n) (humL c n), ((0 : Nat) : Int)) from rfl, lp];simp only [Option.bind_some, toneL, hr1, hc1]
/-! Sounds, made small and great again. -/
noncomputable def cmpB (x0 : Int) : Option (Int × Int) := (uF145 x0).bind fun y1 => bif (!y1) then (some (((0 : Int), (1 : Int)))) else ((bif (decide (x0 < ((0 : Int)))) then (bnd ((IntKind.wrap .i64 (((IntKind.wrap .i64 (0 - x0))) - ((1 : Int))))) fun u16 => some (((128 : Int), u16))) else (some (((0 : Int), x0)))).bind fun (y13, y14) => bnd ((IntKind.wrap .i64 (((gmin ((IntKind.wrap .i64 (Int.tdiv y14 ((4 : Int))))) ((8158 : Int)))) + ((33 : Int))))) fun u24 => (loopF (fun s : Int => uF84a u24 s) 9 ((0 : Int))).bind fun y63 => (gshr .i64 u24 ((IntKind.wrap .i64 (y63 + ((1 : Int)))))).bind fun y71 => bnd ((IntKind.wrap .u8 ((IntKind.wrap .i64 (((255 : Int)) - ((IntKind.wrap .i64 (((IntKind.wrap .i64 (y13 + ((IntKind.wrap .i64 (((16 : Int)) * y63)))))) + ((IntKind.wrap .i64 (y71 - ((16 : Int))))))))))))) fun u73 => some ((u73, (0 : Int))))
theorem bind_le {α β : Type} {a b : Option α} {f g : α → Option β} {e : β} (h : a.bind f = some e) (h1 : ∀ x, a = some x → b = some x) (h2 : ∀ x, f x = some e → g x = some e) : b.bind g = some e := by
 cases a with
 | none => cases h
 | some x => rw [h1 x rfl]; exact h2 x h
theorem cond_le {α : Type} {c : Bool} {a b f g : Option α} {e : α} (h : (bif c then a else f) = some e) (h1 : a = some e → b = some e) (h2 : f = some e → g = some e) : (bif c then b else g) = some e := by
 cases c
 ·exact h2 h
 ·exact h1 h
theorem cmpB_is (x : Int) (e : Int × Int) (h : cmpB x = some e) : uF84 x = some e := by
 unfold cmpB at h;unfold uF84;refine bind_le h (fun _ h => h) fun y1 h => cond_le h (fun h => h) fun h => bind_le h (fun _ h => h) fun (y13, y14) h => ?_;exact bind_le (a := loopF _ 9 0) h (fun y h => loopO_of h) fun _ h => h
noncomputable def qz (x : Int) : Int := match cmpB x with
  | some (b, 0) => (uF64 b).getD 0
  | _ => 0
noncomputable def qok (x : Int) : Bool := match cmpB x with
  | some (b, 0) => match uF64 b with
    | some v => decide (-32768 ≤ v) && decide (v ≤ 32767)
    | none => false
  | _ => false
theorem qz_is (x : Int) (h : qok x = true) : ∃ b, uF84 x = some (b, 0) ∧ uF64 b = some (qz x) ∧ -32768 ≤ qz x ∧ qz x ≤ 32767 := by
 unfold qok at h;unfold qz;split at h
 ·next b hb =>
  split at h
  ·next v hv =>
   refine ⟨b, cmpB_is _ _ hb, ?_⟩;simp only [hv, Option.getD_some, true_and];simpa using h
  ·cases h
 ·cases h
theorem qz_zero : (qz 0 == 0 && qok 0) = true := by kernel_rfl
def stp (c u v x : Int) : Int := IntKind.wrap .i64 (IntKind.wrap .i64 (Int.fdiv x (2 ^ 3) + Int.fdiv (IntKind.wrap .i64 (c * u)) (2 ^ 14)) - v)
def strF (c : Int) : List Int → Int → Int → Int × Int
  | [], u, v => (u, v)
  | x :: l, u, v => strF c l (stp c u v x) u
theorem strF_app (c x : Int) : ∀ (l : List Int) (u v : Int), strF c (l ++ [x]) u v = (stp c (strF c l u v).1 (strF c l u v).2 x, (strF c l u v).1)
 | [], _, _ => rfl
 | y :: l, u, v => by rw [List.cons_append, strF, strF_app c x l, strF]
def strV (c : Int) (l : List Int) : Int :=
  match strF c l 0 0 with
  | (u, v) => IntKind.wrap .i64 (IntKind.wrap .i64 (IntKind.wrap .i64 (u * u) + IntKind.wrap .i64 (v * v)) - IntKind.wrap .i64 (Int.fdiv (IntKind.wrap .i64 (c * u)) (2 ^ 14) * v))
theorem str_is (c : Int) (l : List Int) (hl : l.length ≤ 100000) : uF146a c l = some (strV c l) := by
 have := loop_for (N := l.length) (step := fun s : Int × Int × Int => uF146 c l s.1 s.2.1 s.2.2) (fun k => ((strF c (l.take k) 0 0).1, (strF c (l.take k) 0 0).2, (k : Int))) (strF c l 0 0) (fun k hk => by
  have hk' : (k : Int) < l.length := by omega
  simp only [uF146, hk', decide_true, cond_true, idx_at hk, Option.bind_some, bnd];rw [w64 (n := (k : Int) + 1) (by omega) (by omega), List.take_succ_eq_append_getElem hk, strF_app];rfl) (by simp [uF146])
 simp only [List.take_zero, Int.natCast_zero] at this;unfold uF146a;rw [show ((0 : Int), (0 : Int), (0 : Int)) = ((strF c [] 0 0).1, (strF c [] 0 0).2, 0) from rfl, this];rfl
def bestN (all : List Int) : Nat → Nat
  | 0 => 0
  | k + 1 => if all.getD k 0 > all.getD (bestN all k) 0 then k else bestN all k
theorem best_lt (all : List Int) : ∀ k, bestN all k ≤ k - 1
 | 0 => Nat.le_refl _
 | k + 1 => by unfold bestN; have := best_lt all k; split <;> omega
def clear (all : List Int) : Bool := (List.range all.length).all fun i => i == bestN all all.length || decide (IntKind.wrap .i64 (6 * all.getD i 0) ≤ all.getD (bestN all all.length) 0)
theorem getD_ix (all : List Int) (i : Nat) (h : i < all.length) : idx all (i : Int) = some (all.getD i 0) := by
 rw [idx_nat, List.getD_eq_getElem?_getD, List.getElem?_eq_getElem h]; rfl
theorem strong_is (ns b : List Int) (hn : 1 ≤ ns.length) (hn2 : ns.length ≤ 100) (hl : b.length ≤ 100000) (hc : clear (ns.map (strV · b)) = true) :
  uF85 ns b = some ((bestN (ns.map (strV · b)) ns.length : Int), decide ((ns.map (strV · b)).getD (bestN (ns.map (strV · b)) ns.length) 0 ≥ 4000000)) := by
 generalize hall : ns.map (strV · b) = all at hc;have hlen : all.length = ns.length := by rw [← hall]; simp
 have e1 : loopO (fun s : List Int × Int × Int => uF85a ns b s.1 s.2.1 s.2.2) ([], 0, 0) = some (all, (bestN all ns.length : Int)) := by
  have := loop_for (N := ns.length) (step := fun s : List Int × Int × Int => uF85a ns b s.1 s.2.1 s.2.2) (fun k => (all.take k, (bestN all k : Int), (k : Int))) (all, (bestN all ns.length : Int)) (fun k hk => by
   have hk' : (k : Int) < ns.length := by omega
   have hka : k < all.length := by omega
   have hv : strV ns[k] b = all[k] := by subst hall; simp
   have ap : app 8 (all.take k) [all[k]] = some (all.take (k + 1)) := by
    rw [app_of (by simp; omega) (by simp; omega), List.take_succ_eq_append_getElem hka]
   have hb := best_lt all k;have hb' : bestN all k < k + 1 := by omega
   have t1 : idx (all.take (k + 1)) (k : Int) = some (all.getD k 0) := by
    rw [← getD_ix all k hka, idx_nat, idx_nat, List.getElem?_take_of_lt (by omega)]
   have t2 : idx (all.take (k + 1)) (bestN all k : Int) = some (all.getD (bestN all k) 0) := by
    rw [← getD_ix all (bestN all k) (by omega), idx_nat, idx_nat, List.getElem?_take_of_lt (by omega)]
   simp only [uF85a, hk', decide_true, cond_true, idx_at hk, Option.bind_some, str_is _ b hl, hv, ap, t1, t2];rw [w64 (n := (k : Int) + 1) (by omega) (by omega)];by_cases hg : all.getD k 0 > all.getD (bestN all k) 0
   ·simp only [hg, decide_true, cond_true, bestN, if_true]; rfl
   ·simp only [hg, decide_false, cond_false, bestN, if_false]; rfl) (by
    simp [uF85a, ← hlen])
  simpa [bestN] using this
 have hb := best_lt all ns.length;have e2 : loopO (fun s : Int => uF85b all (bestN all ns.length : Int) s) 0 = some (.inl ()) := by
  have := loop_for (N := all.length) (step := fun s : Int => uF85b all (bestN all ns.length : Int) s) (fun k => (k : Int)) (.inl ()) (fun k hk => by
   have hk' : (k : Int) < all.length := by omega
   have hcc := List.all_eq_true.1 hc k (List.mem_range.2 hk);rw [hlen] at hcc;have hcond : (bif ((k : Int) != (bestN all ns.length : Int)) then ((idx all (bestN all ns.length : Int)).bind fun y105 => some (decide (y105 < IntKind.wrap .i64 (6 * all.getD k 0)))) else some false) = some false := by
    rw [getD_ix all (bestN all ns.length) (by omega)];by_cases he : k = bestN all ns.length
    ·rw [← he]; simp
    ·have hne : ((k : Int) != (bestN all ns.length : Int)) = true := by simp; omega
     have hne2 : (k == bestN all ns.length) = false := by simp; exact he
     rw [hne2, Bool.false_or] at hcc
     have := of_decide_eq_true hcc
     have hn : ¬ (all.getD (bestN all ns.length) 0 < IntKind.wrap .i64 (6 * all.getD k 0)) := by omega
     simp only [hne, cond_true, Option.bind_some, hn, decide_false]
   simp only [uF85b, hk', decide_true, cond_true, getD_ix all k hk, Option.bind_some, hcond, cond_false];rw [w64 (n := (k : Int) + 1) (by omega) (by omega)];rfl) (by simp [uF85b])
  exact this
 unfold uF85;rw [e1];simp only [Option.bind_some];rw [e2];simp only [lret, getD_ix all (bestN all ns.length) (by omega), Option.bind_some, bnd]

noncomputable def blk (k j : Nat) : List Int := (((toneL k 820).drop (205 * j)).take 205).map qz
noncomputable def okB (k j : Nat) : Bool :=
  let r := rowN.map (strV · (blk k j))
  let c := colN.map (strV · (blk k j))
  clear r && clear c && bestN r 4 == k / 4 && bestN c 4 == k % 4 && decide (r.getD (bestN r 4) 0 ≥ 4000000) && decide (c.getD (bestN c 4) 0 ≥ 4000000)
theorem good_all : (List.range 16).all (fun k => (toneL k 820).all fun a => decide (-32768 ≤ a) && decide (a ≤ 32767)) = true := by kernel_rfl
theorem humA_take (c : Int) : ∀ (n m : Nat) (a b : Int), n ≤ m → (humA c m a b).take n = humA c n a b
 | 0, _, _, _, _ => rfl
 | n + 1, 0, _, _, h => absurd h (by omega)
 | n + 1, m + 1, a, b, h => by rw [humA, List.take_succ_cons, humA_take c n m b _ (by omega), humA]
theorem tone_take (k n m : Nat) (h : n ≤ m) : (toneL k m).take n = toneL k n := by
 unfold toneL humL;rw [List.take_zipWith, humA_take _ n m _ _ h, humA_take _ n m _ _ h]
theorem tone_len (k n : Nat) : (toneL k n).length = n := by unfold toneL humL; simp [humA_len]
theorem heard_is (k j : Nat) (h : okB k j = true) : uF85 rowN (blk k j) = some (((k / 4 : Nat) : Int), true) ∧ uF85 colN (blk k j) = some (((k % 4 : Nat) : Int), true) := by
 simp only [okB, Bool.and_eq_true, beq_iff_eq, decide_eq_true_eq] at h;obtain ⟨⟨⟨⟨⟨h1, h2⟩, h3⟩, h4⟩, h5⟩, h6⟩ := h;have hl : (blk k j).length ≤ 100000 := by unfold blk; simp; omega
 have s1 := strong_is rowN (blk k j) (by decide) (by decide) hl h1;have s2 := strong_is colN (blk k j) (by decide) (by decide) hl h2;rw [show rowN.length = 4 from rfl, h3] at s1;rw [show colN.length = 4 from rfl, h4] at s2;rw [h3] at h5;rw [h4] at h6;exact ⟨by rw [s1, decide_eq_true h5], by rw [s2, decide_eq_true h6]⟩
def keyOf (X : List Int) (p key : Int) : Prop := ∃ r c : Int × Bool, ∃ b, sub X p (IntKind.wrap .i64 (p + 205)) = some b ∧ uF85 rowN b = some r ∧ uF85 colN b = some c ∧
  (bif (r.2 && c.2) then (bnd (IntKind.wrap .i64 (IntKind.wrap .i64 (4 * r.1) + c.1)) fun u102 => some u102) else some (-1)) = some key
theorem step_is (X out : List Int) (last many p key : Int) (hp : 0 ≤ p) (hX : p + 205 ≤ X.length) (hX2 : X.length ≤ 100000) (hk : keyOf X p key) :
  uF33 X out last many p = (bif (key != last) then some (key, (0 : Int)) else some (last, many)).bind fun (l, m) => bnd (IntKind.wrap .i64 (m + 1)) fun u =>
   bif ((u == 2) && decide (key ≥ 0)) then ((idx pad key).bind fun y => (app 1 out [(y.toNat : Int)]).bind fun z => some (.inl (z, l, u, p + 205))) else some (.inl (out, l, u, p + 205)) := by
 obtain ⟨r, c, b, h1, h2, h3, h4⟩ := hk;have w : IntKind.wrap .i64 (p + 205) = p + 205 := w64 (by omega) (by omega);rw [w] at h1;simp only [uF33, w, hX, decide_true, cond_true, h1, Option.bind_some, uF86, uF87];rw [show ([27980, 26956, 25701, 24219] : List Int) = rowN from rfl, show ([19073, 16325, 13085, 9315] : List Int) = colN from rfl, h2, h3];simp only [Option.bind_some, h4];rfl
noncomputable abbrev KL (X : List Int) := fun s : List Int × Int × Int × Int => uF33 X s.1 s.2.1 s.2.2.1 s.2.2.2
theorem go_new (X out : List Int) (last many p key : Int) (hp : 0 ≤ p) (hX : p + 205 ≤ X.length) (hX2 : X.length ≤ 100000) (hk : keyOf X p key) (hn : key ≠ last) :
  loopO (KL X) (out, last, many, p) = loopO (KL X) (out, key, 1, p + 205) := by
 rw [loopO_eq (step := KL X)];have hb : (key != last) = true := by simpa using hn
 have := step_is X out last many p key hp hX hX2 hk
 rw [hb] at this;simp only [cond_true, Option.bind_some, bnd] at this;rw [show IntKind.wrap .i64 (0 + 1) = 1 from rfl] at this;simp only [show (((1 : Int) == 2) && decide (key ≥ 0)) = false from rfl, cond_false] at this;simp only [KL, this]
theorem go_two (X out : List Int) (p : Int) (k : Nat) (hk16 : k < 16) (hp : 0 ≤ p) (hX : p + 205 ≤ X.length) (hX2 : X.length ≤ 100000) (hk : keyOf X p k) (ho : out.length ≤ 1000) :
  loopO (KL X) (out, (k : Int), 1, p) = loopO (KL X) (out ++ [((pad.getD k 0).toNat : Int)], (k : Int), 2, p + 205) := by
 rw [loopO_eq (step := KL X)]
 have := step_is X out k 1 p k hp hX hX2 hk
 have hi : idx pad (k : Int) = some (pad.getD k 0) := by
  rw [idx_nat, List.getD_eq_getElem?_getD, List.getElem?_eq_getElem (by simpa [pad] using hk16)]; rfl
 have h0 : ((k : Int) ≥ 0) := by omega
 rw [bne_self_eq_false] at this;simp only [cond_false, Option.bind_some, bnd] at this;rw [show IntKind.wrap .i64 (1 + 1) = 2 from rfl] at this;simp only [beq_self_eq_true, h0, decide_true, Bool.and_true, cond_true, hi, Option.bind_some] at this;rw [app_of (by simp; omega) (by simp; omega)] at this;simp only [Option.bind_some] at this;simp only [KL, this]
theorem go_more (X out : List Int) (many p key : Int) (hp : 0 ≤ p) (hX : p + 205 ≤ X.length) (hX2 : X.length ≤ 100000) (hk : keyOf X p key) (hm : 0 ≤ many ∧ many ≤ 1000) (h2 : 2 ≤ many ∨ key < 0) :
  loopO (KL X) (out, key, many, p) = loopO (KL X) (out, key, many + 1, p + 205) := by
 rw [loopO_eq (step := KL X)]
 have := step_is X out key many p key hp hX hX2 hk
 rw [bne_self_eq_false] at this;simp only [cond_false, Option.bind_some, bnd] at this;rw [w64 (n := many + 1) (by omega) (by omega)] at this;have hf : ((many + 1 == 2) && decide (key ≥ 0)) = false := by
  rcases h2 with h2 | h2
  ·have : ¬ (many + 1 = 2) := by omega
   simp [this]
  ·have : ¬ (key ≥ 0) := by omega
   simp [this]
 rw [hf] at this;simp only [cond_false] at this;simp only [KL, this]
theorem key_tone (X : List Int) (p : Int) (k j : Nat) (hk : k < 16) (h : okB k j = true) (hs : sub X p (IntKind.wrap .i64 (p + 205)) = some (blk k j)) : keyOf X p (k : Int) := by
 refine ⟨_, _, _, hs, (heard_is k j h).1, (heard_is k j h).2, ?_⟩;simp only [Bool.and_self, cond_true, bnd];rw [w64 (n := 4 * ((k / 4 : Nat) : Int)) (by omega) (by omega), w64 (by omega) (by omega)];congr 1;omega
def silent : Bool := clear (rowN.map (strV · (List.replicate 205 0))) && clear (colN.map (strV · (List.replicate 205 0))) && !decide ((rowN.map (strV · (List.replicate 205 0))).getD (bestN (rowN.map (strV · (List.replicate 205 0))) 4) 0 ≥ 4000000)
theorem key_zero (X : List Int) (p : Int) (h : silent = true) (hs : sub X p (IntKind.wrap .i64 (p + 205)) = some (List.replicate 205 0)) : keyOf X p (-1) := by
 simp only [silent, Bool.and_eq_true] at h;obtain ⟨⟨h1, h2⟩, h3⟩ := h;have s1 := strong_is rowN (List.replicate 205 0) (by decide) (by decide) (by simp) h1;have s2 := strong_is colN (List.replicate 205 0) (by decide) (by decide) (by simp) h2;refine ⟨_, _, _, hs, s1, s2, ?_⟩;rw [show rowN.length = 4 from rfl];rw [Bool.not_eq_true'] at h3;simp only [h3, Bool.false_and, cond_false]
theorem run_group (X out : List Int) (m p : Int) (k a b : Nat) (hk : k < 16) (ha : a = 3 ∨ a = 4) (hb : b = 2 ∨ b = 3) (hp : 0 ≤ p) (hX : p + 205 * (a + b) ≤ X.length) (hX2 : X.length ≤ 100000) (ho : out.length ≤ 1000)
  (hT : ∀ j : Nat, j < a → ∀ q : Int, q = p + 205 * j → keyOf X q k) (hZ : ∀ j : Nat, a ≤ j → j < a + b → ∀ q : Int, q = p + 205 * j → keyOf X q (-1)) :
  loopO (KL X) (out, -1, m, p) = loopO (KL X) (out ++ [((pad.getD k 0).toNat : Int)], -1, (b : Int), p + 205 * (a + b)) := by
 have hne : (k : Int) ≠ -1 := by omega
 rw [go_new X out (-1) m p k hp (by omega) hX2 (hT 0 (by omega) _ (by omega)) hne,
  go_two X out (p + 205) k hk (by omega) (by omega) hX2 (hT 1 (by omega) _ (by omega)) ho,
  go_more X _ 2 (p + 205 + 205) k (by omega) (by omega) hX2 (hT 2 (by omega) _ (by omega)) (by omega) (.inl (by omega))]
 have sil : ∀ (mm q : Int), 0 ≤ q → q = p + 205 * a → loopO (KL X) (out ++ [((pad.getD k 0).toNat : Int)], (k : Int), mm, q) = loopO (KL X) (out ++ [((pad.getD k 0).toNat : Int)], -1, (b : Int), p + 205 * (a + b)) := by
  intro mm q hq e;rw [go_new X _ k mm q (-1) hq (by omega) hX2 (hZ a (by omega) (by omega) _ e) (by omega),
   go_more X _ 1 (q + 205) (-1) (by omega) (by omega) hX2 (hZ (a + 1) (by omega) (by omega) _ (by omega)) (by omega) (.inr (by omega))]
  rcases hb with rfl | rfl
  ·rw [show q + 205 + 205 = p + 205 * ((a : Int) + ((2 : Nat) : Int)) from by omega]; rfl
  ·rw [go_more X _ (1 + 1) (q + 205 + 205) (-1) (by omega) (by omega) hX2 (hZ (a + 2) (by omega) (by omega) _ (by omega)) (by omega) (.inr (by omega))]
   rw [show q + 205 + 205 + 205 = p + 205 * ((a : Int) + ((3 : Nat) : Int)) from by omega]; rfl
 rcases ha with rfl | rfl
 ·exact sil _ _ (by omega) (by omega)
 ·rw [go_more X _ (2 + 1) (p + 205 + 205 + 205) k (by omega) (by omega) hX2 (hT 3 (by omega) _ (by omega)) (by omega) (.inl (by omega))]
  exact sil _ _ (by omega) (by omega)
abbrev Grp := Nat × Nat × Nat
def GrpOk (g : Grp) : Prop := g.1 < 16 ∧ (g.2.1 = 3 ∨ g.2.1 = 4) ∧ (g.2.2 = 2 ∨ g.2.2 = 3)
def sndG (g : Grp) : List Int := toneL g.1 (205 * g.2.1) ++ List.replicate (205 * g.2.2) 0
def sndL (gs : List Grp) : List Int := gs.flatMap sndG
def txtL (gs : List Grp) : List UInt8 := gs.map fun g => pad.getD g.1 0
theorem sndG_len (g : Grp) : (sndG g).length = 205 * (g.2.1 + g.2.2) := by unfold sndG; simp [tone_len]; omega
theorem sndL_len : ∀ (gs : List Grp), (∀ g ∈ gs, GrpOk g) → (sndL gs).length ≤ 1435 * gs.length
 | [], _ => by simp [sndL]
 | g :: gs, h => by
  have h1 := sndG_len g
  have h2 := sndL_len gs fun x hx => h x (List.mem_cons_of_mem _ hx)
  obtain ⟨_, a, b⟩ := h g List.mem_cons_self
  have : (sndL (g :: gs)).length = (sndG g).length + (sndL gs).length := by simp [sndL]
  rw [this, List.length_cons]
  omega
theorem rune_all : (List.range 16).all (fun k => runeStr (IntKind.wrap .i32 ((pad.getD k 0).toNat : Int)) == [pad.getD k 0]) = true := by kernel_rfl
theorem rune_is (k : Nat) (hk : k < 16) : runeStr (IntKind.wrap .i32 ((pad.getD k 0).toNat : Int)) = [pad.getD k 0] := by
 have := List.all_eq_true.1 rune_all k (List.mem_range.2 hk)
 simpa using this
theorem sent_is (y7 : uT0 × Int) (s : uT0) (k : Int) (hs : SOk s k) (hk : k ≤ 100) (hn : 0 ≤ y7.2 ∧ y7.2 ≤ 4) :
  ∃ gs s', loopO (fun s : List Int × List UInt8 × Int × uT0 => uF30 y7 s.1 s.2.1 s.2.2.1 s.2.2.2) ([], [], 0, s) = some (sndL gs, txtL gs, s') ∧ gs.length ≤ 4 ∧ (∀ g ∈ gs, GrpOk g) ∧ SOk s' (k + 12) := by
 obtain ⟨e, h1, gs, h2, h3, h4, h5, h6⟩ := loopO_ind (step := fun s : List Int × List UInt8 × Int × uT0 => uF30 y7 s.1 s.2.1 s.2.2.1 s.2.2.2)
  (fun q => ∃ gs : List Grp, q.1 = sndL gs ∧ q.2.1 = txtL gs ∧ q.2.2.1 = (gs.length : Int) ∧ q.2.2.1 ≤ y7.2 ∧ (∀ g ∈ gs, GrpOk g) ∧ SOk q.2.2.2 (k + 3 * q.2.2.1))
  (fun e => ∃ gs : List Grp, e.1 = sndL gs ∧ e.2.1 = txtL gs ∧ gs.length ≤ 4 ∧ (∀ g ∈ gs, GrpOk g) ∧ SOk e.2.2 (k + 12)) (fun q => (y7.2 - q.2.2.1).toNat) (fun q hq => by
   obtain ⟨o, t, n, s⟩ := q;obtain ⟨gs, q1, q2, q3, q4, q5, q6⟩ := hq;simp only [] at q1 q2 q3 q4 q6;subst q1; subst q2; subst q3;simp only [uF30];by_cases hlt : (gs.length : Int) < y7.2
   ·obtain ⟨r, e1, r1, r2⟩ := next_is s 16 _ q6 (by omega) (by omega) (by omega)
    obtain ⟨kk, rfl⟩ := Int.eq_ofNat_of_zero_le r1;have hkk : kk < 16 := by omega
    have hi : idx pad (kk : Int) = some (pad.getD kk 0) := by
     rw [idx_nat, List.getD_eq_getElem?_getD, List.getElem?_eq_getElem (by simpa [pad] using hkk)]; rfl
    obtain ⟨a, e2, ha⟩ := pick_is ⟨s.L, s.at_ + 1⟩ 615 820 _ q6.one (by omega);obtain ⟨b, e3, hb⟩ := pick_is ⟨s.L, s.at_ + 1 + 1⟩ 410 615 _ q6.one.one (by omega);obtain ⟨a', haa, ha'⟩ : ∃ a' : Nat, a = ((205 * a' : Nat) : Int) ∧ (a' = 3 ∨ a' = 4) := by
     rcases ha with rfl | rfl
     ·exact ⟨3, rfl, .inl rfl⟩
     ·exact ⟨4, rfl, .inr rfl⟩
    obtain ⟨b', hbb, hb'⟩ : ∃ b' : Nat, b = ((205 * b' : Nat) : Int) ∧ (b' = 2 ∨ b' = 3) := by
     rcases hb with rfl | rfl
     ·exact ⟨2, rfl, .inl rfl⟩
     ·exact ⟨3, rfl, .inr rfl⟩
    subst haa; subst hbb;have hl := sndL_len gs q5;have tl := tone_len kk (205 * a');refine .inr ⟨(sndL (gs ++ [(kk, a', b')]), txtL (gs ++ [(kk, a', b')]), (gs.length : Int) + 1, ⟨s.L, s.at_ + 1 + 1 + 1⟩), ?_, ⟨gs ++ [(kk, a', b')], rfl, rfl, by simp, by simp only []; omega, ?_, ?_⟩, by simp only []; omega⟩
    ·rw [e1]; simp only [hlt, decide_true, cond_true, Option.bind_some]
     rw [show ([49, 50, 51, 65, 52, 53, 54, 66, 55, 56, 57, 67, 42, 48, 35, 68] : List UInt8) = pad from rfl, hi];simp only [Option.bind_some, bnd, e2];rw [tone_is kk (205 * a') hkk (by omega)];simp only [Option.bind_some];rw [app_of (by omega) (by omega)];simp only [Option.bind_some, e3];rw [appN, if_pos (by omega), app_of (by simp; omega) (by simp; omega)];simp only [Option.bind_some];rw [rune_is kk hkk, sadd, if_pos (by simp [txtL]; omega)];simp only [Option.bind_some];rw [w64 (by omega) (by omega)];simp [sndL, txtL, sndG];omega
    ·intro g hg
     rcases List.mem_append.1 hg with hg | hg
     ·exact q5 g hg
     ·simp at hg; subst hg; exact ⟨hkk, ha', hb'⟩
    ·exact q6.one.one.one.up (by simp only []; omega)
   ·exact .inl ⟨(sndL gs, txtL gs, s), by simp [hlt], gs, rfl, rfl, by omega, q5, q6.up (by (try simp only []); omega)⟩) ([], [], 0, s) ⟨[], rfl, rfl, rfl, by simp; omega, by simp, by simpa using hs⟩
 obtain ⟨e1, e2, e3⟩ := e;simp only [] at h2 h3;subst h2; subst h3;exact ⟨gs, e3, h1, h4, h5, h6⟩
theorem sub_at (pre G post : List Int) (j : Nat) (hj : 205 * j + 205 ≤ G.length) (hl : (pre ++ (G ++ post)).length ≤ 100000) (q : Int) (hq : q = (pre.length : Int) + 205 * j) :
  sub (pre ++ (G ++ post)) q (IntKind.wrap .i64 (q + 205)) = some ((G.drop (205 * j)).take 205) := by
 simp at hl;rw [w64 (by omega) (by omega), sub, if_pos (by simp; omega)];have e1 : (q + 205).toNat = pre.length + (205 * j + 205) := by omega
 have e2 : q.toNat = pre.length + 205 * j := by omega
 rw [e1, e2, List.take_length_add_append, List.drop_length_add_append, List.take_append_of_le_length hj, List.drop_take, show 205 * j + 205 - 205 * j = 205 from by omega]
noncomputable def sndH (g : Grp) : List Int := (sndG g).map qz
noncomputable def sndM (gs : List Grp) : List Int := gs.flatMap sndH
theorem sndM_is (gs : List Grp) : (sndL gs).map qz = sndM gs := by
 unfold sndL sndM sndH;rw [List.map_flatMap]
theorem sndH_len (g : Grp) : (sndH g).length = 205 * (g.2.1 + g.2.2) := by unfold sndH; rw [List.length_map, sndG_len]
theorem blk_at (g : Grp) (hg : GrpOk g) (j : Nat) (hj : j < g.2.1) : ((sndH g).drop (205 * j)).take 205 = blk g.1 j := by
 obtain ⟨_, ha, _⟩ := hg;have tl := tone_len g.1 (205 * g.2.1);unfold sndH sndG blk;rw [← List.map_drop, ← List.map_take];congr 1;rw [List.drop_append_of_le_length (by omega), List.take_append_of_le_length (by simp; omega), ← tone_take g.1 (205 * g.2.1) 820 (by omega), List.drop_take, List.take_take];congr 1;omega
theorem zero_at (g : Grp) (j : Nat) (hj : g.2.1 ≤ j) (hj2 : j < g.2.1 + g.2.2) : ((sndH g).drop (205 * j)).take 205 = List.replicate 205 0 := by
 have tl := tone_len g.1 (205 * g.2.1);have hz : qz 0 = 0 := by have := qz_zero; rw [Bool.and_eq_true] at this; simpa using this.1
 unfold sndH sndG;rw [← List.map_drop, ← List.map_take, List.drop_append, List.drop_of_length_le (by omega), List.nil_append, tl, List.drop_replicate, List.take_replicate, List.map_replicate, hz];congr 1;omega
theorem runs_is (hok : ∀ k j : Nat, k < 16 → j < 4 → okB k j = true) (hz : silent = true) : ∀ (gs : List Grp) (pre out : List Int) (m : Int), (∀ g ∈ gs, GrpOk g) → (pre ++ sndM gs).length ≤ 100000 → out.length + gs.length ≤ 1000 →
  loopO (KL (pre ++ sndM gs)) (out, -1, m, (pre.length : Int)) = some (out ++ (txtL gs).map fun c => (c.toNat : Int))
 | [], pre, out, m, _, hl, _ => by
  rw [loopO_eq (step := KL _)]
  have w : IntKind.wrap .i64 ((pre.length : Int) + 205) = pre.length + 205 := by
   simp [sndM] at hl
   rw [w64 (by omega) (by omega)]
  have c : ¬ ((pre.length : Int) + 205 ≤ ((pre ++ sndM []).length : Int)) := by simp [sndM]; omega
  simp only [KL, uF33, w, c, decide_false, cond_false]
  simp [txtL]
 | g :: gs, pre, out, m, hg, hl, ho => by
  have e : sndM (g :: gs) = sndH g ++ sndM gs := by simp [sndM]
  rw [e] at hl ⊢
  have g0 := hg g List.mem_cons_self
  have gl := sndH_len g
  have hl' := hl
  simp at hl'
  simp only [List.length_cons] at ho
  rw [run_group (pre ++ (sndH g ++ sndM gs)) out m pre.length g.1 g.2.1 g.2.2 g0.1 g0.2.1 g0.2.2 (by omega) (by simp; omega) hl (by omega)
   (fun j hj q hq => key_tone _ _ _ j g0.1 (hok _ _ g0.1 (by have := g0.2.1; omega)) (by rw [sub_at pre (sndH g) (sndM gs) j (by omega) hl q hq, blk_at g g0 j hj]))
   (fun j hj hj2 q hq => key_zero _ _ hz (by rw [sub_at pre (sndH g) (sndM gs) j (by omega) hl q hq, zero_at g j hj hj2]))]
  have ih := runs_is hok hz gs (pre ++ sndH g) (out ++ [((pad.getD g.1 0).toNat : Int)]) (g.2.2 : Int) (fun x hx => hg x (List.mem_cons_of_mem _ hx)) (by rw [List.append_assoc]; exact hl) (by simp; omega)
  rw [List.append_assoc] at ih
  rw [show (pre.length : Int) + 205 * ((g.2.1 : Int) + (g.2.2 : Int)) = ((pre ++ sndH g).length : Int) from by simp; omega, ih]
  simp [txtL]
theorem snd_ok (hq : ∀ k, k < 16 → (toneL k 820).all qok = true) (gs : List Grp) (h : ∀ g ∈ gs, GrpOk g) : ∀ a ∈ sndL gs, qok a = true := by
 intro a ha;obtain ⟨g, hg, ha⟩ := List.mem_flatMap.1 ha;obtain ⟨hk, hh, _⟩ := h g hg;rcases List.mem_append.1 ha with ha | ha
 ·rw [← tone_take g.1 (205 * g.2.1) 820 (by omega)] at ha
  exact List.all_eq_true.1 (hq g.1 hk) a (List.mem_of_mem_take ha)
 ·have := (List.mem_replicate.1 ha).2
  subst this
  have := qz_zero; rw [Bool.and_eq_true] at this; exact this.2
theorem mod_good (x : List Int) (h : ∀ a ∈ x, qok a = true) : Good (x.map qz) := by
 intro a ha;obtain ⟨b, hb, rfl⟩ := List.mem_map.1 ha;obtain ⟨_, _, _, h1, h2⟩ := qz_is b (h b hb);exact ⟨h1, h2⟩
noncomputable def cz (x : Int) : Int := match cmpB x with
  | some (b, _) => b
  | none => 0
theorem cz_is (x : Int) (h : qok x = true) : uF84 x = some (cz x, 0) ∧ uF64 (cz x) = some (qz x) := by
 obtain ⟨b, h1, h2, _⟩ := qz_is x h;have hc : cz x = b := by
  unfold qok at h;split at h
  ·next c hc =>
   have := cmpB_is _ _ hc
   rw [h1] at this;injection this with this
   injection this with this;unfold cz;rw [hc]; exact this.symm
  ·cases h
 rw [hc];exact ⟨h1, h2⟩
theorem small_is (x : List Int) (hl : x.length ≤ 20000) (hg : Good x) (h : ∀ a ∈ x, qok a = true) : uF31a x = some (x.map cz, 0) := by
 have := loop_for (N := x.length) (step := fun s : List Int × Int => uF31 x s.1 s.2) (fun k => (newk cz 0 x k, (k : Int))) (x.map cz) (fun k hk => by
  simp (disch := omega) [uF31, hk, idx_at hk, (cz_is _ (h _ (List.getElem_mem hk))).1, newk_idx _ _ _ _ hk, bnd, w64, newk_set _ _ _ _ hk]) (by simp [uF31, newk_all])
 simp only [Int.natCast_zero, newk_zero] at this;simp [uF31a, checkS_is x hl hg, mkN_of (b := 1) (n := x.length) (x := (0 : Int)) (by omega) (by omega) (by omega), this]
theorem great_is (x : List Int) (hl : x.length ≤ 20000) (h : ∀ a ∈ x, qok a = true) : uF32a (x.map cz) = some (x.map qz, 0) := by
 have hn : ¬ ((x.length : Int) > 20000) := by omega
 have hml : (x.map cz).length = x.length := by simp
 have ex : ∀ k (hk : k < x.length), uF64 (cz x[k]) = some (qz x[k]) := fun k hk => (cz_is _ (h _ (List.getElem_mem hk))).2
 have := loop_for (N := x.length) (step := fun s : List Int × Int => uF32 (x.map cz) s.1 s.2) (fun k => (newk qz 0 x k, (k : Int))) (x.map qz) (fun k hk => by
  have hi : idx (x.map cz) (k : Int) = some (cz x[k]) := by rw [idx_at (by rw [hml]; exact hk)]; simp
  simp (disch := omega) [uF32, hk, hi, ex k hk, newk_idx _ _ _ _ hk, bnd, w64, newk_set _ _ _ _ hk]) (by simp [uF32, newk_all])
 simp only [Int.natCast_zero, newk_zero] at this;simp [uF32a, hn, mkN_of (b := 8) (n := x.length) (x := (0 : Int)) (by omega) (by omega) (by omega), this]
theorem snd_good (gs : List Grp) (h : ∀ g ∈ gs, GrpOk g) : Good (sndL gs) := by
 intro a ha;obtain ⟨g, hg, ha⟩ := List.mem_flatMap.1 ha;obtain ⟨hk, hq, _⟩ := h g hg;rcases List.mem_append.1 ha with ha | ha
 ·rw [← tone_take g.1 (205 * g.2.1) 820 (by omega)] at ha
  have := List.all_eq_true.1 good_all g.1 (List.mem_range.2 hk)
  have := List.all_eq_true.1 this a (List.mem_of_mem_take ha)
  simpa using this
 ·have := (List.mem_replicate.1 ha).2
  omega
theorem bytes_back (t : List UInt8) : bytesStr (t.map fun c => (c.toNat : Int)) = t := by
 unfold bytesStr;rw [List.map_map];conv => rhs; rw [← List.map_id t]
 apply List.map_congr_left;intro c _;simp
end Go.Proofs.YtagbgmkocjfanaaGreatDoor
