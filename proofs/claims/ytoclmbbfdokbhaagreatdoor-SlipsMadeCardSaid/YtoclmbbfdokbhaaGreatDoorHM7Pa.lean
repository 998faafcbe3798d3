/-
  Plans: what is drawn.
-/
import Derived.Test.YtoclmbbfdokbhaaGreatDoorHM7Aa
import Derived.Test.YtoclmbbfdokbhaaGreatDoorHM7Absc
namespace Go.Proofs.YtoclmbbfdokbhaaGreatDoor
open Go Go.Abs
set_option maxRecDepth 100000
set_option maxHeartbeats 1000000
theorem below_is (x n : Int) (h1 : 1 ≤ n) (h2 : n ≤ 4611686018427387904) : uF128 x n = some (x % n):=by
 have hn : ¬ n < 1:=by omega
 have hn0 : n ≠ 0:=by omega
 have hlt : x.tmod n < n:=Int.tmod_lt_of_pos _ (by omega);have hgt : -n < x.tmod n:=by
  have:=Int.tmod_lt_of_pos (-x) (b:=n) (by omega)
  rw [Int.neg_tmod] at this; omega
 rw [emod_tmod x n h1];by_cases h : x.tmod n < 0
 ·simp (disch:=omega) [uF128,hn,grem,hn0,h,bnd,w64]
 ·simp [uF128,hn,grem,hn0,h,bnd]
def SOk (s : uT0) (k : Int) : Prop:=s.L.length ≤ 4611686018427387904 ∧ 0 ≤ s.at_ ∧ s.at_ ≤ k
theorem next_is (s : uT0) (n k : Int) (hs : SOk s k) (hk : k ≤ 4611686018427387904) (h1 : 1 ≤ n) (h2 : n ≤ 4611686018427387904) :
  ∃ r,uF63 s n = some (⟨s.L,s.at_ + 1⟩,r) ∧ 0 ≤ r ∧ r < n:=by
 obtain ⟨hl,ha,hb⟩:=hs;have e1 : IntKind.wrap .i64 (s.at_ + 1) = s.at_ + 1:=w64 (by omega) (by omega);have hm : ∀ x : Int,0 ≤ x % n ∧ x % n < n:=fun x=>⟨Int.emod_nonneg _ (by omega),Int.emod_lt_of_pos _ (by omega)⟩;unfold uF63;rw [e1];by_cases h0 : s.L.length = 0
 ·have hz : (s.L.length : Int) = 0:=by omega
  simp [hz,below_is _ _ h1 h2];exact hm _
 ·have hz : ¬ ((s.L.length : Int) = 0):=by omega
  have e2 : IntKind.wrap .i64 (s.at_ + 1 - 1) = s.at_:=by rw [w64] <;> omega
  have hi : 0 ≤ s.at_.tmod s.L.length ∧ s.at_.tmod s.L.length < s.L.length:=⟨Int.tmod_nonneg _ ha,Int.tmod_lt_of_pos _ (by omega)⟩;obtain ⟨x,hx,_⟩:=idx_of hi.1 hi.2;rw [e2];have hne : s.L ≠ []:=by rintro q; simp [q] at h0
  have hb : ((s.L.length : Int) == 0) = false:=by simp [hne]
  simp [hb,hne,grem,gquo,hx,below_is _ _ h1 h2,below_is _ 1073741824 (by omega) (by omega)];exact hm _
theorem range_is (s : uT0) (lo hi k : Int) (hs : SOk s k) (hk : k ≤ 4611686018427387904) (h1 : lo ≤ hi) (h2 : -1000000000000 ≤ lo) (h3 : hi ≤ 1000000000000) :
  ∃ r,uF61 s lo hi = some (⟨s.L,s.at_ + 1⟩,r) ∧ lo ≤ r ∧ r ≤ hi:=by
 obtain ⟨r,e,r1,r2⟩:=next_is s (hi - lo + 1) k hs hk (by omega) (by omega);have hlt : ¬ hi < lo:=by omega
 refine ⟨lo + r,?_,by omega,by omega⟩;simp (disch:=omega) [uF61,hlt,w64,e,bnd]

theorem SOk.up {s : uT0} {k m : Int} (h : SOk s k) (e : k ≤ m) : SOk s m:=⟨h.1,h.2.1,Int.le_trans h.2.2 e⟩
theorem SOk.one {s : uT0} {k : Int} (h : SOk s k) : SOk ⟨s.L,s.at_ + 1⟩ (k + 1):=by
 obtain ⟨a,b,c⟩:=h;exact ⟨a,by (try simp only []); omega,by (try simp only []); omega⟩
theorem pick_in (s : uT0) (l : List Int) (k : Int) (hs : SOk s k) (hk : k ≤ 1000000) (hl : 0 < l.length) (hl2 : l.length ≤ 1000) : ∃ r,uF58 s l = some (⟨s.L,s.at_ + 1⟩,r) ∧ r ∈ l:=by
 obtain ⟨r,e,r1,r2⟩:=next_is s l.length k hs (by omega) (by omega) (by omega);obtain ⟨x,hx,hm⟩:=idx_of r1 r2;exact ⟨x,by simp [uF58,e,hx],hm⟩
theorem flip_is (s : uT0) (n k : Int) (hs : SOk s k) (hk : k ≤ 1000000) (h1 : 1 ≤ n) (h2 : n ≤ 1000) : ∃ b,uF53 s n = some (⟨s.L,s.at_ + 1⟩,b):=by
 obtain ⟨r,e,r1,r2⟩:=next_is s n k hs (by omega) (by omega) (by omega);exact ⟨r == 0,by simp [uF53,e,bnd]⟩
def hpB (x y : List UInt8) : Bool:=decide (y.length ≤ x.length) && (x.take y.length == y)
theorem hp_is (x y : List UInt8) : uF96 x y = some (hpB x y):=by
 unfold uF96 uF161 hpB;by_cases h : y.length ≤ x.length
 ·have h1 : decide ((x.length : Int) ≥ (y.length : Int)) = true:=decide_eq_true (by omega)
  have h2 : sub x 0 (y.length : Int) = some (x.take y.length):=by
   unfold sub;rw [if_pos (by omega)]; simp
  simp only [h1,h2,h,cond_true,Option.bind_some,decide_true,Bool.true_and]
 ·have h1 : decide ((x.length : Int) ≥ (y.length : Int)) = false:=decide_eq_false (by omega)
  simp only [h1,h,cond_false,Option.bind_some,decide_false,Bool.false_and]
theorem cut_is (x y : List UInt8) : uF102 x y = some (if hpB x y = true then (x.drop y.length,true) else (x,false)):=by
 have h:=hp_is x y;unfold uF96 at h;obtain ⟨b,hb,h'⟩:=obind h;have h':=Option.some.inj h';subst h';unfold uF102 uF165;simp only [bnd,hb,Option.bind_some];cases hq : hpB x y with
 | false=>simp
 | true =>
  have hl : y.length ≤ x.length:=by simp [hpB] at hq; exact hq.1
  have h2 : sub x (y.length : Int) (x.length : Int) = some (x.drop y.length):=by
   unfold sub;rw [if_pos (by omega)]; simp
  simp [h2]
def digs : List UInt8:=[48,49,50,51,52,53,54,55,56,57]
def digB (x : List UInt8) (lo hi : Int) : Bool:=(decide (lo ≤ (x.length : Int)) && decide ((x.length : Int) ≤ hi)) && (Lib.trimS x digs == [])
theorem trim_is (x : List UInt8) (h : x.length ≤ 1000000) : uF160 x digs = some (Lib.trimS x digs):=by
 have hk : trimOk x digs = true:=by
  unfold trimOk digs;have : x.length ≤ 9223372036854775807:=by omega
  simp [this]
 simp [uF160,hk]
theorem dig_is (x : List UInt8) (lo hi : Int) (h : x.length ≤ 1000000) : uF94 x lo hi = some (digB x lo hi):=by
 unfold uF94 uF103 digB;rw [show ([48,49,50,51,52,53,54,55,56,57] : List UInt8) = digs from rfl,trim_is x h];simp only [bnd,Option.bind_some];cases (decide (lo ≤ (x.length : Int)) && decide ((x.length : Int) ≤ hi)) <;> rfl
theorem dig_is' (x : List UInt8) (lo hi : Int) (h : x.length ≤ 1000000) : uF105 x lo hi = some (digB x lo hi):=by
 unfold uF105 uF166 digB;rw [show ([48,49,50,51,52,53,54,55,56,57] : List UInt8) = digs from rfl,trim_is x h];simp only [bnd,Option.bind_some,ge_iff_le];cases (decide (lo ≤ (x.length : Int)) && decide ((x.length : Int) ≤ hi)) <;> rfl

def GoodA (a : uT2) : Prop:=a.Prefix.length ≤ 100000 ∧ -4611686018427387904 ≤ a.Low ∧ a.Low ≤ 4611686018427387904 ∧ -4611686018427387904 ≤ a.High ∧ a.High ≤ 4611686018427387904
def GoodC (c : uT1) : Prop:=c.Code.length ≤ 100000 ∧ c.Abroad.length ≤ 100000 ∧ c.Trunk.length ≤ 100000 ∧ c.Areas.length ≤ 100000 ∧ ∀ a ∈ c.Areas,GoodA a

def errL {α : Type} (f : Nat → α → Int) : Nat → List α → Int
  | _,[]=>0
  | i,a :: l=>if f i a = 0 then errL f (i + 1) l else f i a
theorem err_loop {α : Type} {step : Int → Option (Int ⊕ (Unit ⊕ Int))} (l : List α) (f : Nat → α → Int)
  (h : ∀ (i : Nat) (a : α),l[i]? = some a → step (i : Int) = some (if f i a = 0 then .inl ((i + 1 : Nat) : Int) else .inr (.inr (f i a)))) (hend : step (l.length : Int) = some (.inr (.inl ()))) :
  loopO step 0 = some (if errL f 0 l = 0 then .inl () else .inr (errL f 0 l)):=by
 have key : ∀ (m : List α) (i : Nat),foldE (fun i a (_ : Unit)=>some (if f i a = 0 then (.inl () : Unit ⊕ (Unit ⊕ Int)) else .inr (.inr (f i a)))) (fun _=>(.inl () : Unit ⊕ Int)) i m () = some (if errL f i m = 0 then .inl () else .inr (errL f i m)):=by
  intro m;induction m with
  | nil=>intro i; rfl
  | cons a m ih =>
   intro i;by_cases e : f i a = 0
   ·simp only [foldE,e,if_true,errL]; exact ih (i + 1)
   ·simp only [foldE,e,if_false,errL]
 have:=loop_list (step:=step) l (fun i (_ : Unit)=>(i : Int)) (fun i a _=>some (if f i a = 0 then (.inl () : Unit ⊕ (Unit ⊕ Int)) else .inr (.inr (f i a)))) (fun _=>.inl ()) (fun i a s hi=>by
  rw [h i a hi];by_cases e : f i a = 0 <;> simp [e]) (fun s=>hend) ()
 rw [← key l 0]; exact this
theorem errL_zero {α : Type} {f : Nat → α → Int} : ∀ {l : List α} {i : Nat},errL f i l = 0 → ∀ k a,l[k]? = some a → f (i + k) a = 0
 | [],_,_,k,a,hk=>by simp at hk
 | b :: l,i,h,k,a,hk=>by
  by_cases e : f i b = 0
  ·simp only [errL,e,if_true] at h
   cases k with
   | zero=>simp at hk; subst hk; exact e
   | succ k =>
    have:=errL_zero h k a (by simpa using hk)
    rwa [show i + 1 + k = i + (k + 1) from by omega] at this
  ·simp only [errL,e,if_false] at h

def areaE (c : uT1) (k : Nat) (a : uT2) : Int :=
  let p : uT2:=c.Areas[k - 1]?.getD a
  bif !digB a.Prefix 1 8 then 3
  else bif decide (0 < k) && (Op.bytesLess a.Prefix p.Prefix || a.Prefix == p.Prefix) then 7
  else bif (decide (0 < k) && hpB a.Prefix p.Prefix) || (hpB (c.Trunk ++ a.Prefix) c.Abroad || hpB c.Abroad (c.Trunk ++ a.Prefix)) then 13
  else bif ((decide (a.Low ≤ (a.Prefix.length : Int)) || decide (a.Low > a.High)) || decide (a.High > 15 - (c.Code.length : Int))) || decide (a.Low < 4 - (c.Code.length : Int)) then 1 else 0
theorem sadd_of {x y : List UInt8} (h : x.length + y.length ≤ 4611686018427387904) : sadd x y = some (x ++ y):=by simp [sadd,h]
theorem prev_at {α : Type} {l : List α} {k : Nat} {a b : α} (hk : l[k]? = some a) (h0 : 0 < k) (hl : l.length ≤ 100000) : idx l (IntKind.wrap .i64 ((k : Int) - 1)) = some (l[k - 1]?.getD b):=by
 have hlt:=(List.getElem?_eq_some_iff.1 hk).1;rw [w64 (by omega) (by omega),show ((k : Int) - 1) = ((k - 1 : Nat) : Int) from by omega,idx_at (by omega)];simp [show k - 1 < l.length from by omega]
theorem area_is {c : uT1} {k : Nat} {a : uT2} (hc : GoodC c) (hk : c.Areas[k]? = some a) : uF193 c (k : Int) = some (areaE c k a):=by
 obtain ⟨h1,h2,h3,h4,h5⟩:=hc;obtain ⟨g1,g2,g3,g4,g5⟩:=h5 a (List.mem_of_getElem? hk);have ws : sadd c.Trunk a.Prefix = some (c.Trunk ++ a.Prefix):=sadd_of (by omega);have w1 : IntKind.wrap .i64 (15 - (c.Code.length : Int)) = 15 - (c.Code.length : Int):=w64 (by omega) (by omega);have w2 : IntKind.wrap .i64 (4 - (c.Code.length : Int)) = 4 - (c.Code.length : Int):=w64 (by omega) (by omega);unfold uF193 areaE;simp only [idx_nat,hk,Option.bind_some,ws,dig_is' a.Prefix 1 8 (by omega),hp_is,bnd,w1,w2];cases digB a.Prefix 1 8
 ·rfl
 ·simp only [Bool.not_true,cond_false]
  by_cases h0 : 0 < k
  ·have hd : decide ((k : Int) > 0) = true:=decide_eq_true (by omega)
   simp only [hd,cond_true,prev_at (b:=a) hk h0 h4,Option.bind_some,decide_eq_true h0,Bool.true_and];cases (Op.bytesLess a.Prefix (c.Areas[k - 1]?.getD a).Prefix || a.Prefix == (c.Areas[k - 1]?.getD a).Prefix)
   ·simp only [cond_false]
    cases hpB a.Prefix (c.Areas[k - 1]?.getD a).Prefix
    ·simp only [cond_false,Bool.false_or]
     cases hpB (c.Trunk ++ a.Prefix) c.Abroad
     ·simp only [cond_false,Bool.false_or,Option.bind_some]
      cases hpB c.Abroad (c.Trunk ++ a.Prefix) <;> simp only [cond_false,cond_true,Option.bind_some] <;> (try rfl) <;> cases ((decide (a.Low ≤ (a.Prefix.length : Int)) || decide (a.Low > a.High)) || decide (a.High > 15 - (c.Code.length : Int))) || decide (a.Low < 4 - (c.Code.length : Int)) <;> rfl
     ·simp only [cond_true,Bool.true_or,Option.bind_some]
    ·simp only [cond_true,Bool.true_or,Option.bind_some]
   ·simp only [cond_true]
  ·have hd : decide ((k : Int) > 0) = false:=decide_eq_false (by omega)
   simp only [hd,cond_false,Option.bind_some,decide_eq_false h0,Bool.false_and,Bool.false_or];cases hpB (c.Trunk ++ a.Prefix) c.Abroad
   ·simp only [cond_false,Bool.false_or,Option.bind_some]
    cases hpB c.Abroad (c.Trunk ++ a.Prefix) <;> simp only [cond_false,cond_true,Option.bind_some] <;> (try rfl) <;> cases ((decide (a.Low ≤ (a.Prefix.length : Int)) || decide (a.Low > a.High)) || decide (a.High > 15 - (c.Code.length : Int))) || decide (a.Low < 4 - (c.Code.length : Int)) <;> rfl
   ·simp only [cond_true,Bool.true_or,Option.bind_some]
theorem c1_is {c : uT1} {k : Nat} {a : uT2} (hc : GoodC c) (hk : c.Areas[k]? = some a) : uF154 c (k : Int) = some (if areaE c k a = 0 then .inl ((k + 1 : Nat) : Int) else .inr (.inr (areaE c k a))):=by
 have hlt:=(List.getElem?_eq_some_iff.1 hk).1;have h4:=hc.2.2.2.1;have hd : decide ((k : Int) < (c.Areas.length : Int)) = true:=decide_eq_true (by omega);unfold uF154;simp only [hd,cond_true,area_is hc hk,Option.bind_some,w64 (n:=(k : Int) + 1) (by omega) (by omega)];by_cases e : areaE c k a = 0
 ·simp [e]
 ·have : (areaE c k a != 0) = true:=by simpa using e
  simp only [this,cond_true,e,if_false]
theorem f1_is {c : uT1} {k : Nat} {a : uT2} (hc : GoodC c) (hk : c.Areas[k]? = some a) : uF33 c (k : Int) = some (if areaE c k a = 0 then .inl ((k + 1 : Nat) : Int) else .inr (.inr (areaE c k a))):=by
 have hlt:=(List.getElem?_eq_some_iff.1 hk).1;obtain ⟨h1,h2,h3,h4,h5⟩:=hc;obtain ⟨g1,g2,g3,g4,g5⟩:=h5 a (List.mem_of_getElem? hk);have hd : decide ((k : Int) < (c.Areas.length : Int)) = true:=decide_eq_true (by omega);have ws : sadd c.Trunk a.Prefix = some (c.Trunk ++ a.Prefix):=sadd_of (by omega);have w1 : IntKind.wrap .i64 (a.High + (c.Code.length : Int)) = a.High + (c.Code.length : Int):=w64 (by omega) (by omega);have w2 : IntKind.wrap .i64 (a.Low + (c.Code.length : Int)) = a.Low + (c.Code.length : Int):=w64 (by omega) (by omega);have d1 : decide (a.High + (c.Code.length : Int) > 15) = decide (a.High > 15 - (c.Code.length : Int)):=decide_eq_decide.2 (by omega);have d2 : decide (a.Low + (c.Code.length : Int) < 4) = decide (a.Low < 4 - (c.Code.length : Int)):=decide_eq_decide.2 (by omega);unfold uF33 areaE;simp only [hd,cond_true,idx_nat,hk,Option.bind_some,ws,dig_is a.Prefix 1 8 (by omega),hp_is,bnd,w1,w2,d1,d2,w64 (n:=(k : Int) + 1) (by omega) (by omega)];cases digB a.Prefix 1 8
 ·rfl
 ·simp only [Bool.not_true,cond_false]
  by_cases h0 : 0 < k
  ·have hd : decide ((k : Int) > 0) = true:=decide_eq_true (by omega)
   simp only [hd,cond_true,prev_at (b:=a) hk h0 h4,Option.bind_some,decide_eq_true h0,Bool.true_and];cases (Op.bytesLess a.Prefix (c.Areas[k - 1]?.getD a).Prefix || a.Prefix == (c.Areas[k - 1]?.getD a).Prefix)
   ·simp only [cond_false]
    cases hpB a.Prefix (c.Areas[k - 1]?.getD a).Prefix
    ·simp only [cond_false,Bool.false_or]
     cases hpB (c.Trunk ++ a.Prefix) c.Abroad
     ·simp only [cond_false,Bool.false_or,Option.bind_some]
      cases hpB c.Abroad (c.Trunk ++ a.Prefix) <;> simp only [cond_false,cond_true,Option.bind_some] <;> (try rfl) <;> cases ((decide (a.Low ≤ (a.Prefix.length : Int)) || decide (a.Low > a.High)) || decide (a.High > 15 - (c.Code.length : Int))) || decide (a.Low < 4 - (c.Code.length : Int)) <;> rfl
     ·rfl
    ·rfl
   ·rfl
  ·have hd : decide ((k : Int) > 0) = false:=decide_eq_false (by omega)
   simp only [hd,cond_false,Option.bind_some,decide_eq_false h0,Bool.false_and,Bool.false_or];cases hpB (c.Trunk ++ a.Prefix) c.Abroad
   ·simp only [cond_false,Bool.false_or,Option.bind_some]
    cases hpB c.Abroad (c.Trunk ++ a.Prefix) <;> simp only [cond_false,cond_true,Option.bind_some] <;> (try rfl) <;> cases ((decide (a.Low ≤ (a.Prefix.length : Int)) || decide (a.Low > a.High)) || decide (a.High > 15 - (c.Code.length : Int))) || decide (a.Low < 4 - (c.Code.length : Int)) <;> rfl
   ·rfl
theorem areas_end {c : uT1} : uF154 c (c.Areas.length : Int) = some (.inr (.inl ())) ∧ uF33 c (c.Areas.length : Int) = some (.inr (.inl ())):=by
 constructor
 ·simp [uF154]
 ·simp [uF33]
theorem c1_loop {c : uT1} (hc : GoodC c) : loopO (fun s : Int=>uF154 c s) 0 = some (if errL (areaE c) 0 c.Areas = 0 then .inl () else .inr (errL (areaE c) 0 c.Areas)) :=
 err_loop c.Areas (areaE c) (fun _ _ h=>c1_is hc h) areas_end.1
theorem f1_loop {c : uT1} (hc : GoodC c) : loopO (fun s : Int=>uF33 c s) 0 = some (if errL (areaE c) 0 c.Areas = 0 then .inl () else .inr (errL (areaE c) 0 c.Areas)) :=
 err_loop c.Areas (areaE c) (fun _ _ h=>f1_is hc h) areas_end.2
def countryE (p : List uT1) (k : Nat) (c : uT1) : Int :=
  let o : uT1:=p[k - 1]?.getD c
  bif !digB c.Code 1 3 || (((c.Code[0]?.getD 0).toNat : Int) == 48) then 3
  else bif decide (0 < k) && (Op.bytesLess c.Code o.Code || c.Code == o.Code) then 7
  else bif (p.take k).any (fun o=>hpB c.Code o.Code) then 13
  else bif (!digB c.Abroad 1 4 || !digB c.Trunk 0 2) || hpB c.Trunk c.Abroad then 3
  else bif decide ((c.Areas.length : Int) > 300) then 2 else errL (areaE c) 0 c.Areas
def planE (p : List uT1) : Int:=if (p.length : Int) > 100 then 2 else errL (countryE p) 0 p
def GoodP (p : List uT1) : Prop:=p.length ≤ 100000 ∧ ∀ c ∈ p,GoodC c
theorem dig_ne {x : List UInt8} {hi : Int} (h : digB x 1 hi = true) : idx x 0 = some (x[0]?.getD 0):=by
 have h1 : 1 ≤ (x.length : Int):=by
  simp only [digB,Bool.and_eq_true,decide_eq_true_eq] at h; exact h.1.1
 cases x with
 | nil=>simp at h1
 | cons a x=>rfl
theorem any_is (l : List uT1) (g : uT1 → Option Bool) (q : uT1 → Bool) (hg : ∀ a ∈ l,g a = some (q a)) (hl : l.length ≤ 100000) : uF83 l g = some (l.any q):=by
 have h : uF148 l g = some (idxI q l):=idxF_loop l g q hg (by omega);unfold uF83;simp only [h,Option.bind_some,bnd,idxI_any]
theorem sub_take {α : Type} {l : List α} {k : Nat} (h : k ≤ l.length) : sub l 0 (k : Int) = some (l.take k):=by
 unfold sub;rw [if_pos (by omega)]; simp
theorem conf_loop {c : uT1} (l : List uT1) (hl : l.length ≤ 100000) : loopO (fun s : Int=>uF192 c l s) 0 = some (if l.any (fun o=>hpB c.Code o.Code) = true then .inr 13 else .inl ()):=by
 have h:=err_loop (step:=fun s : Int=>uF192 c l s) l (fun _ o=>if hpB c.Code o.Code = true then 13 else 0) (fun i a hi=>by
  have hlt:=(List.getElem?_eq_some_iff.1 hi).1;have hd : decide ((i : Int) < (l.length : Int)) = true:=decide_eq_true (by omega);simp only [uF192,hd,cond_true,idx_nat,hi,Option.bind_some,hp_is,w64 (n:=(i : Int) + 1) (by omega) (by omega)];cases hpB c.Code a.Code <;> simp) (by simp [uF192])
 rw [h];have key : ∀ (l : List uT1) (i : Nat),errL (fun _ (o : uT1)=>if hpB c.Code o.Code = true then (13 : Int) else 0) i l = if l.any (fun o=>hpB c.Code o.Code) = true then 13 else 0:=by
  intro l;induction l with
  | nil=>intro i; rfl
  | cons a l ih =>
   intro i;simp only [errL,List.any_cons];by_cases hb : hpB c.Code a.Code = true
   ·simp [hb]
   ·have hb' : hpB c.Code a.Code = false:=by simpa using hb
    simp only [hb',Bool.false_eq_true,if_false,if_true,Bool.false_or]; exact ih (i + 1)
 rw [key];cases l.any (fun o=>hpB c.Code o.Code) <;> simp

theorem country_is {p : List uT1} {k : Nat} {c : uT1} (hp : GoodP p) (hk : p[k]? = some c) :
  uF154a p (k : Int) = some (if countryE p k c = 0 then .inl ((k + 1 : Nat) : Int) else .inr (.inr (countryE p k c))):=by
 have hlt:=(List.getElem?_eq_some_iff.1 hk).1;obtain ⟨hl,hg⟩:=hp;have hc:=hg c (List.mem_of_getElem? hk);obtain ⟨h1,h2,h3,h4,h5⟩:=hc;have hd : decide ((k : Int) < (p.length : Int)) = true:=decide_eq_true (by omega);have w1:=w64 (n:=(k : Int) + 1) (by omega) (by omega);have key : ∃ e,uF192a p (k : Int) = some e ∧ countryE p k c = (if e = 0 then errL (areaE c) 0 c.Areas else e):=by
  unfold uF192a countryE;simp only [idx_nat,hk,Option.bind_some,dig_is' c.Code 1 3 (by omega),dig_is' c.Abroad 1 4 (by omega),dig_is' c.Trunk 0 2 (by omega),bnd,sub_take (Nat.le_of_lt hlt),conf_loop (c:=c) (p.take k) (by simp; omega),hp_is];cases hq : digB c.Code 1 3
  ·exact ⟨3,rfl,rfl⟩
  ·simp only [Bool.not_true,cond_false,dig_ne hq,Option.bind_some,Bool.false_or]
   cases (((c.Code[0]?.getD 0).toNat : Int) == 48)
   ·simp only [cond_false]
    have ho : (bif decide ((k : Int) > 0) then ((idx p (IntKind.wrap .i64 ((k : Int) - 1))).bind fun y44=>some (Op.bytesLess c.Code y44.Code || c.Code == y44.Code)) else some false) = some (decide (0 < k) && (Op.bytesLess c.Code (p[k - 1]?.getD c).Code || c.Code == (p[k - 1]?.getD c).Code)):=by
     by_cases h0 : 0 < k
     ·simp only [decide_eq_true (show (k : Int) > 0 from by omega),cond_true,prev_at (b:=c) hk h0 hl,Option.bind_some,decide_eq_true h0,Bool.true_and]
     ·simp only [decide_eq_false (show ¬ (k : Int) > 0 from by omega),cond_false,decide_eq_false h0,Bool.false_and]
    simp only [ho,Option.bind_some];cases (decide (0 < k) && (Op.bytesLess c.Code (p[k - 1]?.getD c).Code || c.Code == (p[k - 1]?.getD c).Code))
    ·simp only [cond_false]
     cases (p.take k).any (fun o=>hpB c.Code o.Code)
     ·simp only [Bool.false_eq_true,if_false,lret,cond_false]
      cases digB c.Abroad 1 4
      ·exact ⟨3,rfl,rfl⟩
      ·cases digB c.Trunk 0 2
       ·exact ⟨3,rfl,rfl⟩
       ·simp only [Bool.not_true,cond_false,Option.bind_some,Bool.false_or]
        cases hpB c.Trunk c.Abroad
        ·simp only [cond_false]
         cases decide ((c.Areas.length : Int) > 300)
         ·exact ⟨0,rfl,rfl⟩
         ·exact ⟨2,rfl,rfl⟩
        ·exact ⟨3,rfl,rfl⟩
     ·exact ⟨13,rfl,rfl⟩
    ·exact ⟨7,rfl,rfl⟩
   ·exact ⟨3,rfl,rfl⟩
 obtain ⟨e,e1,e2⟩:=key;unfold uF154a;simp only [hd,cond_true,idx_nat,hk,Option.bind_some,e1,c1_loop ⟨h1,h2,h3,h4,h5⟩,w1,e2];by_cases he : e = 0
 ·subst he
  simp only [bne_self_eq_false,cond_false,if_true];by_cases ha : errL (areaE c) 0 c.Areas = 0 <;> simp [ha,lret]
 ·have : (e != 0) = true:=by simpa using he
  simp only [this,cond_true,he,if_false]
theorem fault_is {p : List uT1} {k : Nat} {c : uT1} (hp : GoodP p) (hk : p[k]? = some c) :
  uF33a p (k : Int) = some (if countryE p k c = 0 then .inl ((k + 1 : Nat) : Int) else .inr (.inr (countryE p k c))):=by
 have hlt:=(List.getElem?_eq_some_iff.1 hk).1;obtain ⟨hl,hg⟩:=hp;have hc:=hg c (List.mem_of_getElem? hk);obtain ⟨h1,h2,h3,h4,h5⟩:=hc;have hd : decide ((k : Int) < (p.length : Int)) = true:=decide_eq_true (by omega);have w1:=w64 (n:=(k : Int) + 1) (by omega) (by omega);have hany : uF83 (p.take k) (fun a0=>uF95 a0 c) = some ((p.take k).any (fun o=>hpB c.Code o.Code)) :=
  any_is _ _ _ (fun a _=>by simp [uF95,hp_is]) (by simp; omega)
 unfold uF33a countryE;simp only [hd,cond_true,idx_nat,hk,Option.bind_some,dig_is c.Code 1 3 (by omega),dig_is c.Abroad 1 4 (by omega),dig_is c.Trunk 0 2 (by omega),bnd,sub_take (Nat.le_of_lt hlt),hany,hp_is,f1_loop ⟨h1,h2,h3,h4,h5⟩,w1];cases hq : digB c.Code 1 3
 ·rfl
 ·simp only [Bool.not_true,cond_false,dig_ne hq,Option.bind_some,Bool.false_or]
  cases (((c.Code[0]?.getD 0).toNat : Int) == 48)
  ·simp only [cond_false]
   have ho : (bif decide ((k : Int) > 0) then ((idx p (IntKind.wrap .i64 ((k : Int) - 1))).bind fun y44=>some (Op.bytesLess c.Code y44.Code || c.Code == y44.Code)) else some false) = some (decide (0 < k) && (Op.bytesLess c.Code (p[k - 1]?.getD c).Code || c.Code == (p[k - 1]?.getD c).Code)):=by
    by_cases h0 : 0 < k
    ·simp only [decide_eq_true (show (k : Int) > 0 from by omega),cond_true,prev_at (b:=c) hk h0 hl,Option.bind_some,decide_eq_true h0,Bool.true_and]
    ·simp only [decide_eq_false (show ¬ (k : Int) > 0 from by omega),cond_false,decide_eq_false h0,Bool.false_and]
   simp only [ho,Option.bind_some];cases (decide (0 < k) && (Op.bytesLess c.Code (p[k - 1]?.getD c).Code || c.Code == (p[k - 1]?.getD c).Code))
   ·simp only [cond_false]
    cases (p.take k).any (fun o=>hpB c.Code o.Code)
    ·simp only [cond_false]
     cases digB c.Abroad 1 4
     ·rfl
     ·cases digB c.Trunk 0 2
      ·rfl
      ·simp only [Bool.not_true,cond_false,Option.bind_some,Bool.false_or]
       cases hpB c.Trunk c.Abroad
       ·simp only [cond_false]
        cases decide ((c.Areas.length : Int) > 300)
        ·simp only [cond_false]
         by_cases ha : errL (areaE c) 0 c.Areas = 0 <;> simp [ha,lret]
        ·rfl
       ·rfl
    ·rfl
   ·rfl
  ·rfl
theorem check_plan {p : List uT1} (hp : GoodP p) : uF154b p = some (planE p):=by
 have h:=err_loop p (countryE p) (fun _ _ h=>country_is hp h) (by simp [uF154a]);unfold uF154b planE;rw [h];by_cases hl : (p.length : Int) > 100
 ·simp [hl]
 ·simp only [decide_eq_false hl,cond_false,hl,if_false]
  by_cases he : errL (countryE p) 0 p = 0 <;> simp [he,lret]
theorem plan_fault {p : List uT1} (hp : GoodP p) : uF33b p = some (planE p):=by
 have h:=err_loop p (countryE p) (fun _ _ h=>fault_is hp h) (by simp [uF33a]);unfold uF33b planE;rw [h];by_cases hl : (p.length : Int) > 100
 ·simp [hl]
 ·simp only [decide_eq_false hl,cond_false,hl,if_false]
  by_cases he : errL (countryE p) 0 p = 0 <;> simp [he,lret]
theorem idx_find {α : Type} (q : α → Bool) : ∀ l : List α,(idxI q l < 0 ∧ l.find? q = none) ∨ (0 ≤ idxI q l ∧ ∃ a,idx l (idxI q l) = some a ∧ l.find? q = some a ∧ a ∈ l ∧ q a = true)
 | []=>.inl ⟨by simp [idxI_nil],rfl⟩
 | a :: l=>by
  rw [idxI_cons]
  by_cases h : q a = true
  ·refine .inr ⟨by simp [h],a,?_,?_,by simp,h⟩
   ·simp [h,idx]
   ·simp [h]
  ·have h' : q a = false:=by simpa using h
   rcases idx_find q l with ⟨h1,h2⟩ | ⟨h1,b,h2,h3,h4,h5⟩
   ·refine .inl ⟨?_,?_⟩
    ·simp [h',h1]
    ·simp [h',h2]
   ·refine .inr ⟨?_,b,?_,?_,by simp [h4],h5⟩
    ·simp only [h',Bool.false_eq_true,if_false]
     rw [if_neg (by omega)]; omega
    ·simp only [h',Bool.false_eq_true,if_false]
     rw [if_neg (by omega)]
     obtain ⟨n,hn⟩:=Int.eq_ofNat_of_zero_le h1
     rw [hn] at h2 ⊢
     rw [show ((n : Int) + 1) = ((n + 1 : Nat) : Int) from by omega,idx_nat]
     rw [idx_nat] at h2
     simpa using h2
    ·simp [h',h3]
def firstR {T E : Type} (o : Option E) (z : T) : T ⊕ E:=match o with
  | some r=>.inr r
  | none=>.inl z
theorem first_loop {α S E T : Type} {step : S → Option (S ⊕ (T ⊕ E))} (l : List α) (enc : Nat → S) (g : α → Option E) (z : T)
  (h : ∀ (i : Nat) (a : α),l[i]? = some a → step (enc i) = some (match g a with | some r=>.inr (.inr r) | none=>.inl (enc (i + 1)))) (hend : step (enc l.length) = some (.inr (.inl z))) :
  loopO step (enc 0) = some (firstR (l.findSome? g) z):=by
 have key : ∀ (m : List α) (i : Nat),foldE (fun _ a (_ : Unit)=>some (match g a with | some r=>(.inr (.inr r) : Unit ⊕ (T ⊕ E)) | none=>.inl ())) (fun _=>(.inl z : T ⊕ E)) i m () = some (firstR (m.findSome? g) z):=by
  intro m;induction m with
  | nil=>intro i; rfl
  | cons a m ih =>
   intro i;simp only [foldE,List.findSome?_cons];cases g a with
   | none=>exact ih (i + 1)
   | some r=>rfl
 have:=loop_list (step:=step) l (fun i (_ : Unit)=>enc i) (fun _ a _=>some (match g a with | some r=>(.inr (.inr r) : Unit ⊕ (T ⊕ E)) | none=>.inl ())) (fun _=>.inl z) (fun i a s hi=>by
  rw [h i a hi];cases g a <;> rfl) (fun s=>hend) ()
 rw [← key l 0]; exact this
def formB (n : List UInt8) : Bool:=hpB n [43] && (digB (n.drop 1) 4 15 && ((((n.drop 1)[0]?.getD 0).toNat : Int) != 48))
theorem hp_len {x y : List UInt8} (h : hpB x y = true) : y.length ≤ x.length:=by simp [hpB] at h; exact h.1
theorem sub_drop {α : Type} {l : List α} {k : Nat} (h : k ≤ l.length) : sub l (k : Int) (l.length : Int) = some (l.drop k):=by
 unfold sub;rw [if_pos (by omega)]; simp
theorem dig_len {x : List UInt8} {lo hi : Int} (h : digB x lo hi = true) : lo ≤ x.length ∧ (x.length : Int) ≤ hi:=by
 simp only [digB,Bool.and_eq_true,decide_eq_true_eq] at h; exact h.1
theorem isnum_is (n : List UInt8) (hn : n.length ≤ 100000) : uF144 n = some (formB n):=by
 unfold uF144 formB;rw [cut_is];cases hp : hpB n [43]
 ·rfl
 ·simp only [if_true,Option.bind_some,cond_true,Bool.true_and,List.length_cons,List.length_nil,Nat.zero_add]
  rw [dig_is' _ _ _ (by simp; omega)];cases hd : digB (n.drop 1) 4 15
  ·rfl
  ·obtain ⟨h1,_⟩:=dig_len hd
   have : idx (n.drop 1) 0 = some ((n.drop 1)[0]?.getD 0):=by
    cases hq : n.drop 1 with
    | nil=>rw [hq] at h1; simp at h1
    | cons a x=>rfl
   simp only [Option.bind_some,cond_true,this,Bool.true_and]
theorem form_is (n : List UInt8) (hn : n.length ≤ 100000) : uF101 n = some (formB n):=by
 unfold uF101 formB;rw [hp_is];cases hp : hpB n [43]
 ·rfl
 ·have hl:=hp_len hp
  have hl : 1 ≤ n.length:=by simpa using hl
  have hs : sub n 1 (n.length : Int) = some (n.drop 1):=sub_drop (k:=1) hl;simp only [Option.bind_some,cond_true,Bool.true_and,hs];rw [dig_is _ _ _ (by simp; omega)];cases hd : digB (n.drop 1) 4 15
  ·rfl
  ·obtain ⟨h1,_⟩:=dig_len hd
   have : idx n 1 = some ((n.drop 1)[0]?.getD 0):=by
    match n,h1 with
    | [],h1=>simp at h1
    | [_],h1=>simp at h1
    | _ :: b :: x,_=>rfl
   simp only [Option.bind_some,cond_true,this,Bool.true_and]
def noParts : uT3:=⟨[],[],[]⟩
def areaR (c : uT1) (nat : List UInt8) (a : uT2) : uT3 × Int :=
  bif decide ((nat.length : Int) < a.Low) || decide ((nat.length : Int) > a.High) then (noParts,1) else (⟨c.Code,a.Prefix,nat.drop a.Prefix.length⟩,0)
def splitE (p : List uT1) (n : List UInt8) : uT3 × Int :=
  bif !formB n then (noParts,3) else match p.find? (fun c=>hpB (n.drop 1) c.Code) with
  | none=>(noParts,8)
  | some c=>match c.Areas.find? (fun a=>hpB (n.drop (1 + c.Code.length)) a.Prefix) with
    | none=>(noParts,8)
    | some a=>areaR c (n.drop (1 + c.Code.length)) a
theorem form_at {n : List UInt8} (h : formB n = true) : ∃ m,n = 43 :: m ∧ 4 ≤ m.length ∧ m.length ≤ 15:=by
 simp only [formB,Bool.and_eq_true] at h;obtain ⟨h1,h2,_⟩:=h;obtain ⟨h3,h4⟩:=dig_len h2;cases n with
 | nil=>simp at h3
 | cons a m =>
  have : a = 43:=by simpa [hpB] using h1
  subst this;exact ⟨m,rfl,by simp at h3; omega,by simp at h4; omega⟩
theorem split_is {p : List uT1} (hp : GoodP p) (n : List UInt8) (hn : n.length ≤ 100000) : ∃ x,uF91 p n = some x ∧ (x.1.Parts,x.2) = splitE p n:=by
 unfold uF91 splitE;rw [isnum_is n hn];simp only [Option.bind_some];cases hf : formB n
 ·exact ⟨_,rfl,rfl⟩
 ·obtain ⟨m,rfl,hm,hm2⟩:=form_at hf
  simp only [Bool.not_true,cond_false];have h1 : uF148 p (fun a0=>uF156 a0 (43 :: m)) = some (idxI (fun c=>hpB ((43 :: m).drop 1) c.Code) p) :=
   idxF_loop p _ _ (fun a _=>by
    unfold uF156;rw [show sub (43 :: m) 1 ((43 :: m).length : Int) = some ((43 :: m).drop 1) from sub_drop (k:=1) (by simp)];simp only [Option.bind_some,hp_is]) (by have:=hp.1; omega)
  simp only [h1,Option.bind_some];rcases idx_find (fun c : uT1=>hpB ((43 :: m).drop 1) c.Code) p with ⟨i1,i2⟩ | ⟨i1,c,i2,i3,i4,i5⟩
  ·simp only [decide_eq_true i1,cond_true,i2]
   exact ⟨_,rfl,rfl⟩
  ·have i5 : hpB m c.Code = true:=i5
   have hcl:=hp_len i5;have hc:=hp.2 c i4;have ws : sub (43 :: m) (IntKind.wrap .i64 (1 + (c.Code.length : Int))) ((43 :: m).length : Int) = some ((43 :: m).drop (1 + c.Code.length)):=by
    rw [w64 (by omega) (by omega),show (1 + (c.Code.length : Int)) = ((1 + c.Code.length : Nat) : Int) from by omega];exact sub_drop (by simp; omega)
   simp only [decide_eq_false (show ¬ idxI (fun c : uT1=>hpB ((43 :: m).drop 1) c.Code) p < 0 from by omega),cond_false,i2,i3,Option.bind_some,ws];generalize (43 :: m).drop (1 + c.Code.length) = nat;have h2 : uF157 c.Areas (fun a0=>uF158 a0 nat) = some (idxI (fun a=>hpB nat a.Prefix) c.Areas) :=
    idxF_loop c.Areas _ _ (fun a _=>by simp [uF158,hp_is]) (by have:=hc.2.2.2.1; omega)
   simp only [h2,Option.bind_some];rcases idx_find (fun a : uT2=>hpB nat a.Prefix) c.Areas with ⟨j1,j2⟩ | ⟨j1,a,j2,j3,j4,j5⟩
   ·simp only [decide_eq_true j1,cond_true,j2]
    exact ⟨_,rfl,rfl⟩
   ·have hal:=hp_len j5
    simp only [decide_eq_false (show ¬ idxI (fun a : uT2=>hpB nat a.Prefix) c.Areas < 0 from by omega),cond_false,j2,j3,Option.bind_some,sub_drop hal];unfold areaR;cases decide ((nat.length : Int) < a.Low) || decide ((nat.length : Int) > a.High)
    ·exact ⟨_,rfl,rfl⟩
    ·exact ⟨_,rfl,rfl⟩
/- The reference. -/
theorem hp_cons (m y : List UInt8) (a : UInt8) : hpB (a :: m) (a :: y) = hpB m y:=by
 simp [hpB]
theorem in_is (x lo hi : Int) : uF103 x lo hi = some (decide (lo ≤ x) && decide (x ≤ hi)):=by simp [uF103,bnd]
theorem ref_areas {c : uT1} (hc : GoodC c) (nat : List UInt8) (z : uT3) : loopO (fun s : Int × uT3=>uF37b c (nat,true) s.1 s.2) (0,z) =
  some (firstR (c.Areas.findSome? (fun a=>if hpB nat a.Prefix = true then some (areaR c nat a) else none)) z):=by
 have hl:=hc.2.2.2.1;exact first_loop (step:=fun s : Int × uT3=>uF37b c (nat,true) s.1 s.2) c.Areas (fun i=>((i : Int),z)) (fun a=>if hpB nat a.Prefix = true then some (areaR c nat a) else none) z (fun i a hi=>by
  have hlt:=(List.getElem?_eq_some_iff.1 hi).1;have hd : decide ((i : Int) < (c.Areas.length : Int)) = true:=decide_eq_true (by omega);simp only [uF37b,hd,cond_true,idx_nat,hi,Option.bind_some,cut_is,in_is,w64 (n:=(i : Int) + 1) (by omega) (by omega)];cases hb : hpB nat a.Prefix
  ·simp
  ·simp only [if_true,cond_true,Option.bind_some,areaR]
   have : (!(decide (a.Low ≤ (nat.length : Int)) && decide ((nat.length : Int) ≤ a.High))) = (decide ((nat.length : Int) < a.Low) || decide ((nat.length : Int) > a.High)):=by
    rw [Bool.not_and,← decide_not,← decide_not];congr 1 <;> exact decide_eq_decide.2 (by omega)
   rw [this];cases decide ((nat.length : Int) < a.Low) || decide ((nat.length : Int) > a.High) <;> rfl) (by simp [uF37b])
theorem find_some {α β : Type} (q : α → Bool) (r : α → β) : ∀ l : List α,l.findSome? (fun a=>if q a = true then some (r a) else none) = (l.find? q).map r
 | []=>rfl
 | a :: l=>by
  by_cases h : q a = true
  ·simp [h]
  ·have h' : q a = false:=by simpa using h
   simp only [List.findSome?_cons,h',Bool.false_eq_true,if_false,List.find?_cons,find_some q r l]
def Apart (p : List uT1) : Prop:=p.Pairwise fun a b=>hpB a.Code b.Code = false ∧ hpB b.Code a.Code = false
theorem take_both {m x y : List UInt8} (h1 : hpB m x = true) (h2 : hpB m y = true) : hpB x y = true ∨ hpB y x = true:=by
 simp only [hpB,Bool.and_eq_true,decide_eq_true_eq,beq_iff_eq] at h1 h2 ⊢;obtain ⟨a1,a2⟩:=h1;obtain ⟨b1,b2⟩:=h2;rcases Nat.le_total x.length y.length with h | h
 ·refine .inr ⟨h,?_⟩
  rw [← b2,List.take_take,Nat.min_eq_left h]; exact a2
 ·refine .inl ⟨h,?_⟩
  rw [← a2,List.take_take,Nat.min_eq_left h]; exact b2
theorem first_only {β : Type} (m : List UInt8) (g : uT1 → Option β) : ∀ p : List uT1,Apart p → p.findSome? (fun c=>if hpB m c.Code = true then g c else none) = (p.find? (fun c=>hpB m c.Code)).bind g
 | [],_=>rfl
 | c :: p,h=>by
  obtain ⟨h1,h2⟩:=List.pairwise_cons.1 h
  by_cases hc : hpB m c.Code = true
  ·simp only [List.findSome?_cons,hc,if_true,List.find?_cons,Option.bind_some]
   have hn : p.findSome? (fun c=>if hpB m c.Code = true then g c else none) = none:=by
    rw [List.findSome?_eq_none_iff]
    intro b hb
    have : hpB m b.Code = false:=by
     cases hq : hpB m b.Code
     ·rfl
     ·obtain ⟨a1,a2⟩:=h1 b hb
      rcases take_both hc hq with h | h
      ·rw [a1] at h; exact absurd h (by simp)
      ·rw [a2] at h; exact absurd h (by simp)
    simp [this]
   rw [hn]
   cases g c <;> rfl
  ·have hc' : hpB m c.Code = false:=by simpa using hc
   simp only [List.findSome?_cons,hc',Bool.false_eq_true,if_false,List.find?_cons]
   exact first_only m g p h2
theorem ref_split {p : List uT1} (hp : GoodP p) (ha : Apart p) (n : List UInt8) (hn : n.length ≤ 100000) : uF37 p n = some (splitE p n):=by
 unfold uF37 splitE;rw [form_is n hn];simp only [Option.bind_some];cases hf : formB n
 ·rfl
 ·obtain ⟨m,rfl,hm,hm2⟩:=form_at hf
  simp only [Bool.not_true,cond_false];have hl:=hp.1;have h:=first_loop (step:=fun s : Int × uT3=>uF37a p (43 :: m) s.1 s.2) p (fun i=>((i : Int),noParts)) (fun c=>if hpB m c.Code = true then c.Areas.findSome? (fun a=>if hpB ((43 :: m).drop (1 + c.Code.length)) a.Prefix = true then some (areaR c ((43 :: m).drop (1 + c.Code.length)) a) else none) else none) noParts (fun i c hi=>by
   have hlt:=(List.getElem?_eq_some_iff.1 hi).1;have hd : decide ((i : Int) < (p.length : Int)) = true:=decide_eq_true (by omega);have hc:=hp.2 c (List.mem_of_getElem? hi);have hs : sadd [43] c.Code = some (43 :: c.Code):=sadd_of (by have:=hc.1; simp; omega);simp only [uF37a,hd,cond_true,idx_nat,hi,Option.bind_some,hs,cut_is,hp_cons,w64 (n:=(i : Int) + 1) (by omega) (by omega)];cases hb : hpB m c.Code
   ·simp
   ·simp only [if_true,Bool.not_true,cond_false]
    rw [show (43 :: c.Code).length = 1 + c.Code.length from by simp; omega,ref_areas hc];cases c.Areas.findSome? (fun a=>if hpB ((43 :: m).drop (1 + c.Code.length)) a.Prefix = true then some (areaR c ((43 :: m).drop (1 + c.Code.length)) a) else none) <;> simp [lret,firstR]) (by simp [uF37a])
  have h : loopO (fun s : Int × uT3=>uF37a p (43 :: m) s.1 s.2) ((0 : Int),(⟨[],[],[]⟩ : uT3)) = _:=h;rw [h,first_only m _ p ha];simp only [show (43 :: m).drop 1 = m from rfl];cases p.find? (fun c=>hpB m c.Code) with
  | none=>rfl
  | some c =>
   simp only [Option.bind_some,find_some];cases c.Areas.find? (fun a=>hpB ((43 :: m).drop (1 + c.Code.length)) a.Prefix) <;> rfl
theorem bl_trans : ∀ {x y z : List UInt8},Op.bytesLess x y = true → Op.bytesLess y z = true → Op.bytesLess x z = true
 | _,_,[],_,h=>by simp [Op.bytesLess] at h
 | _,[],_ :: _,h,_=>by simp [Op.bytesLess] at h
 | [],_ :: _,_ :: _,_,_=>by simp [Op.bytesLess]
 | a :: x,b :: y,c :: z,h1,h2=>by
  simp only [Op.bytesLess,Bool.or_eq_true,decide_eq_true_eq,Bool.and_eq_true,beq_iff_eq] at h1 h2 ⊢
  rcases h1 with h1 | ⟨rfl,h1⟩
  ·rcases h2 with h2 | ⟨rfl,_⟩
   ·exact .inl (UInt8.lt_trans h1 h2)
   ·exact .inl h1
  ·rcases h2 with h2 | ⟨rfl,h2⟩
   ·exact .inl h2
   ·exact .inr ⟨rfl,bl_trans h1 h2⟩
theorem bl_tot : ∀ {x y : List UInt8},Op.bytesLess x y = false → (x == y) = false → Op.bytesLess y x = true
 | [],[],_,h=>by simp at h
 | _ :: _,[],_,_=>by simp [Op.bytesLess]
 | [],_ :: _,h,_=>by simp [Op.bytesLess] at h
 | a :: x,b :: y,h,k=>by
  simp only [Op.bytesLess,Bool.or_eq_true,decide_eq_true_eq,Bool.and_eq_true,beq_iff_eq]
  simp only [Op.bytesLess,Bool.or_eq_false_iff,decide_eq_false_iff_not,Bool.and_eq_false_iff,beq_eq_false_iff_ne] at h
  by_cases e : a = b
  ·subst e
   refine .inr ⟨rfl,bl_tot (h.2.resolve_left (fun q=>q rfl)) ?_⟩
   simpa using k
  ·refine .inl ?_
   have h1:=h.1
   have : ¬ a.toNat < b.toNat:=fun q=>h1 (UInt8.lt_iff_toNat_lt.2 q)
   have h2 : a.toNat ≠ b.toNat:=fun q=>e (UInt8.toNat_inj.1 q)
   exact UInt8.lt_iff_toNat_lt.2 (by omega)
theorem bl_pre : ∀ {x y : List UInt8},hpB x y = true → Op.bytesLess x y = false
 | _,[],_=>by simp [Op.bytesLess]
 | [],b :: y,h=>by simp [hpB] at h
 | a :: x,b :: y,h=>by
  have h' : a = b ∧ hpB x y = true:=by
   simp only [hpB,Bool.and_eq_true,decide_eq_true_eq,beq_iff_eq,List.length_cons,List.take_succ_cons,List.cons.injEq] at h ⊢
   exact ⟨h.2.1,by omega,h.2.2⟩
  obtain ⟨rfl,h'⟩:=h'
  simp [Op.bytesLess,bl_pre h']
theorem code_facts {p : List uT1} {k : Nat} {c : uT1} (h : countryE p k c = 0) : (0 < k → Op.bytesLess c.Code (p[k - 1]?.getD c).Code = false ∧ (c.Code == (p[k - 1]?.getD c).Code) = false) ∧ (p.take k).any (fun o=>hpB c.Code o.Code) = false:=by
 unfold countryE at h;simp only [] at h;cases h1 : !digB c.Code 1 3 || (((c.Code[0]?.getD 0).toNat : Int) == 48) with
 | true=>rw [h1] at h; simp at h
 | false =>
  rw [h1] at h;simp only [cond_false] at h;cases h2 : decide (0 < k) && (Op.bytesLess c.Code (p[k - 1]?.getD c).Code || c.Code == (p[k - 1]?.getD c).Code) with
  | true=>rw [h2] at h; simp at h
  | false =>
   rw [h2] at h;simp only [cond_false] at h;refine ⟨fun h0=>?_,?_⟩
   ·rw [decide_eq_true h0,Bool.true_and,Bool.or_eq_false_iff] at h2; exact h2
   ·cases h3 : (p.take k).any (fun o=>hpB c.Code o.Code) with
    | false=>rfl
    | true=>rw [h3] at h; simp at h
theorem apart_of {p : List uT1} (h : planE p = 0) : Apart p:=by
 have h0 : errL (countryE p) 0 p = 0:=by
  unfold planE at h;split at h
  ·simp at h
  ·exact h
 have hf : ∀ (k : Nat) (hk : k < p.length),countryE p k p[k] = 0:=fun k hk=>by
  have:=errL_zero h0 k p[k] (by simp [hk])
  simpa using this
 have step : ∀ (k : Nat) (hk : k + 1 < p.length),Op.bytesLess (p[k]'(by omega)).Code p[k + 1].Code = true:=fun k hk=>by
  have:=(code_facts (hf (k + 1) hk)).1 (by omega)
  simp only [Nat.add_sub_cancel,show k < p.length from by omega,getElem?_pos,Option.getD_some] at this;exact bl_tot this.1 this.2
 have chain : ∀ (d i : Nat) (hj : i + d + 1 < p.length),Op.bytesLess (p[i]'(by omega)).Code p[i + d + 1].Code = true:=by
  intro d;induction d with
  | zero=>intro i hj; exact step i hj
  | succ d ih =>
   intro i hj;exact bl_trans (ih i (by omega)) (step (i + d + 1) hj)
 unfold Apart;rw [List.pairwise_iff_getElem];intro i j hi hj hij;have hc:=(code_facts (hf j hj)).2;have hl:=chain (j - i - 1) i (by omega);have hl : Op.bytesLess p[i].Code p[j].Code = true:=by
  have e : i + (j - i - 1) + 1 = j:=by omega
  simpa only [e] using hl
 refine ⟨?_,?_⟩
 ·cases hq : hpB p[i].Code p[j].Code
  ·rfl
  ·rw [bl_pre hq] at hl; simp at hl
 ·have:=List.any_eq_false.1 hc p[i] (by
   rw [List.mem_take_iff_getElem];exact ⟨i,by omega,rfl⟩)
  simpa using this

/- What is drawn. -/
theorem some_in (s : uT0) (l : List (List UInt8)) (k : Int) (hs : SOk s k) (hk : k ≤ 1000000) (hl : 0 < l.length) (hl2 : l.length ≤ 1000) : ∃ r,uF51 s l = some (⟨s.L,s.at_ + 1⟩,r) ∧ r ∈ l:=by
 obtain ⟨r,e,r1,r2⟩:=next_is s l.length k hs (by omega) (by omega) (by omega);obtain ⟨x,hx,hm⟩:=idx_of r1 r2;exact ⟨x,by simp [uF51,e,hx,bnd],hm⟩
theorem odd_is (s : uT0) (lo hi k : Int) (hs : SOk s k) (hk : k ≤ 100000) (h1 : lo ≤ hi) (h2 : -1000000 ≤ lo) (h3 : hi ≤ 1000000) : ∃ s' r,uF62 s lo hi = some (s',r) ∧ SOk s' (k + 2) ∧ -2000000000000 ≤ r ∧ r ≤ 2000000000000:=by
 obtain ⟨b,e⟩:=flip_is s 12 k hs (by omega) (by omega) (by omega);unfold uF62;rw [e];simp only [Option.bind_some];cases b
 ·obtain ⟨r,e2,r1,r2⟩:=range_is ⟨s.L,s.at_ + 1⟩ lo hi (k + 1) hs.one (by omega) h1 (by omega) (by omega)
  refine ⟨⟨s.L,s.at_ + 1 + 1⟩,r,by simp only [cond_false,e2,Option.bind_some],by have:=hs.one.one; rwa [show k + 1 + 1 = k + 2 from by omega] at this,by omega,by omega⟩
 ·obtain ⟨r,e2,hr⟩:=pick_in ⟨s.L,s.at_ + 1⟩ [(IntKind.wrap .i64 (lo - 1)),(IntKind.wrap .i64 (hi + 1)),lo,hi,-1099511627776,1099511627776] (k + 1) hs.one (by omega) (by simp) (by simp)
  refine ⟨⟨s.L,s.at_ + 1 + 1⟩,r,by simp only [cond_true,e2,Option.bind_some],by have:=hs.one.one; rwa [show k + 1 + 1 = k + 2 from by omega] at this,?_⟩;rw [w64 (by omega) (by omega),w64 (by omega) (by omega)] at hr;simp only [List.mem_cons,List.not_mem_nil,or_false] at hr;rcases hr with rfl | rfl | rfl | rfl | rfl | rfl <;> omega

def SmallC (c : uT1) : Prop:=c.Code.length ≤ 10 ∧ c.Abroad.length ≤ 10 ∧ c.Trunk.length ≤ 10 ∧ (1 ≤ c.Areas.length ∧ c.Areas.length ≤ 10) ∧ ∀ a ∈ c.Areas,a.Prefix.length ≤ 10 ∧ -2000000000000 ≤ a.Low ∧ a.Low ≤ 2000000000000 ∧ -2000000000000 ≤ a.High ∧ a.High ≤ 2000000000000
def SmallP (p : List uT1) : Prop:=p.length = 3 ∧ ∀ c ∈ p,SmallC c
theorem SmallP.good {p : List uT1} (h : SmallP p) : GoodP p:=by
 refine ⟨by have:=h.1; omega,fun c hc=>?_⟩;obtain ⟨h1,h2,h3,h4,h5⟩:=h.2 c hc;refine ⟨by omega,by omega,by omega,by have:=h4.2; omega,fun a ha=>?_⟩;obtain ⟨g1,g2,g3,g4,g5⟩:=h5 a ha;exact ⟨by omega,by omega,by omega,by omega,by omega⟩
theorem small_len {l : List (List UInt8)} (h : l.all (fun x=>decide (x.length ≤ 10)) = true) {x : List UInt8} (hx : x ∈ l) : x.length ≤ 10:=by
 have:=List.all_eq_true.1 h x hx; simpa using this
theorem cnl_small {s1 s2 : List UInt8} (h1 : s1.length ≤ 10) (h2 : s2.length ≤ 10) : SmallP (cnl s1 s2):=by
 refine ⟨rfl,fun c hc=>?_⟩;simp only [cnl,List.mem_cons,List.not_mem_nil,or_false] at hc;rcases hc with rfl | rfl | rfl
 ·refine ⟨by simp,by simp,h1,by simp [cnA0],fun a ha=>?_⟩
  simp only [cnA0,List.mem_cons,List.not_mem_nil,or_false] at ha;rcases ha with rfl | rfl <;> simp
 ·refine ⟨by simp,by simp,by simp,by simp [cnA1],fun a ha=>?_⟩
  simp only [cnA1,List.mem_cons,List.not_mem_nil,or_false] at ha;rcases ha with rfl | rfl | rfl <;> simp
 ·refine ⟨by simp,h2,by simp,by simp [cnA2],fun a ha=>?_⟩
  simp only [cnA2,List.mem_cons,List.not_mem_nil,or_false] at ha;rcases ha with rfl | rfl <;> simp
theorem cnl_areas (s1 s2 : List UInt8) : ∀ c ∈ cnl s1 s2,1 ≤ c.Areas.length ∧ c.Areas.length ≤ 3:=by
 intro c hc;simp only [cnl,List.mem_cons,List.not_mem_nil,or_false] at hc;rcases hc with rfl | rfl | rfl <;> simp [cnA0,cnA1,cnA2]
theorem small_set {p : List uT1} (h : SmallP p) {c : uT1} (hc : SmallC c) (k : Nat) : SmallP (p.set k c):=by
 refine ⟨by simp [h.1],fun b hb=>?_⟩;rcases List.mem_or_eq_of_mem_set hb with hb | rfl
 ·exact h.2 b hb
 ·exact hc
theorem right_is (s : uT0) (k : Int) (hs : SOk s k) (hk : k ≤ 1000) : ∃ s1 s2,uF81 s = some (⟨s.L,s.at_ + 1 + 1⟩,cnl s1 s2) ∧ s1.length ≤ 10 ∧ s2.length ≤ 10:=by
 obtain ⟨s1,e1,m1⟩:=some_in s [([49] : List UInt8),([49] : List UInt8),([] : List UInt8)] k hs (by omega) (by simp) (by simp);obtain ⟨s2,e2,m2⟩:=some_in ⟨s.L,s.at_ + 1⟩ [([48,48] : List UInt8),([48] : List UInt8)] (k + 1) hs.one (by omega) (by simp) (by simp);refine ⟨s1,s2,?_,small_len (by decide) m1,small_len (by decide) m2⟩;unfold uF81;simp only [e1,e2,Option.bind_some];rfl
theorem countries_is (s : uT0) (k : Int) (hs : SOk s k) (hk : k ≤ 1000) : ∃ s' p,uF25 s = some (s',p) ∧ SOk s' (k + 12) ∧ SmallP p:=by
 obtain ⟨s1,s2,e1,h1,h2⟩:=right_is s k hs hk;have hp:=cnl_small h1 h2;have har:=cnl_areas s1 s2;generalize cnl s1 s2 = p at e1 hp har;have o2:=hs.one.one;obtain ⟨b,e3⟩:=flip_is ⟨s.L,s.at_ + 1 + 1⟩ 12 (k + 1 + 1) o2 (by omega) (by omega) (by omega);have o3:=o2.one;unfold uF25;simp only [e1,e3,Option.bind_some];cases b
 ·exact ⟨_,p,rfl,o3.up (by omega),hp⟩
 ·simp only [cond_true]
  obtain ⟨n,e4,n1,n2⟩:=next_is ⟨s.L,s.at_ + 1 + 1 + 1⟩ 3 (k + 1 + 1 + 1) o3 (by omega) (by omega) (by omega);have o4:=o3.one;obtain ⟨w,e5,w1,w2⟩:=next_is ⟨s.L,s.at_ + 1 + 1 + 1 + 1⟩ 6 (k + 1 + 1 + 1 + 1) o4 (by omega) (by omega) (by omega);have o5:=o4.one;obtain ⟨c,ec,hcm⟩:=idx_of (l:=p) n1 (by have:=hp.1; omega);obtain ⟨c1,c2,c3,c4,c5⟩:=hp.2 c hcm;simp only [e4,e5,ec,Option.bind_some];generalize ht : (⟨s.L,s.at_ + 1 + 1 + 1 + 1 + 1⟩ : uT0) = t at o5;have some_ : ∀ (l : List (List UInt8)),0 < l.length → l.length ≤ 1000 → l.all (fun x=>decide (x.length ≤ 10)) = true → ∃ r,uF51 t l = some (⟨t.L,t.at_ + 1⟩,r) ∧ r.length ≤ 10:=fun l g1 g2 g3=>by
   obtain ⟨r,er,hr⟩:=some_in t l _ o5 (by omega) g1 g2;exact ⟨r,er,small_len g3 hr⟩
  have o6:=o5.one;cases w == 0
  ·simp only [cond_false]
   cases w == 1
   ·simp only [cond_false]
    cases w == 2
    ·simp only [cond_false]
     cases w == 3
     ·simp only [cond_false]
      cases w == 4
      ·simp only [cond_false]
       refine ⟨_,_,rfl,o5.up (by omega),⟨by simp [hp.1],fun b hb=>hp.2 b (by simpa using hb)⟩⟩
      ·simp only [cond_true]
       obtain ⟨t1,lo,el,ol,l1,l2⟩:=odd_is t 1 6 _ o5 (by omega) (by omega) (by omega) (by omega);obtain ⟨t2,hi,eh,oh,g1,g2⟩:=odd_is t1 3 14 _ ol (by omega) (by omega) (by omega) (by omega);simp only [el,eh,Option.bind_some];cases hA : c.Areas with
       | nil=>have:=(har c hcm).1; rw [hA] at this; simp at this
       | cons a l =>
        refine ⟨_,_,rfl,oh.up (by omega),small_set hp (c:={ c with Areas:={ a with Low:=lo,High:=hi } :: l }) ⟨c1,c2,c3,?_,?_⟩ _⟩
        ·rw [hA] at c4; simpa using c4
        ·intro b hb
         simp only [List.mem_cons] at hb;rcases hb with rfl | hb
         ·have:=c5 a (by rw [hA]; simp)
          exact ⟨this.1,l1,l2,g1,g2⟩
         ·exact c5 b (by rw [hA]; simp [hb])
     ·simp only [cond_true]
      obtain ⟨r,er,hr⟩:=some_ [([] : List UInt8),[56,57,49],[57,57],[48],[49,50,51,52,53,54,55,56,57],[51,48]] (by simp) (by simp) (by decide);obtain ⟨lo,el,hl⟩:=pick_in ⟨t.L,t.at_ + 1⟩ [3,2,9] _ o6 (by omega) (by simp) (by simp);obtain ⟨hi,eh,hh⟩:=pick_in ⟨t.L,t.at_ + 1 + 1⟩ [9,2,14] _ o6.one (by omega) (by simp) (by simp);simp only [er,el,eh,Option.bind_some];refine ⟨_,_,rfl,o6.one.one.up (by omega),small_set hp (c:={ c with Areas:=c.Areas ++ [⟨r,lo,hi⟩] }) ⟨c1,c2,c3,?_,?_⟩ _⟩
      ·have:=(har c hcm).2; simp only [List.length_append,List.length_cons,List.length_nil]; omega
      ·intro b hb
       simp only [List.mem_append,List.mem_cons,List.not_mem_nil,or_false] at hb;rcases hb with hb | rfl
       ·exact c5 b hb
       ·simp only [List.mem_cons,List.not_mem_nil,or_false] at hl hh
        exact ⟨hr,by simp only []; omega,by simp only []; omega,by simp only []; omega,by simp only []; omega⟩
    ·simp only [cond_true]
     obtain ⟨r,er,hr⟩:=some_ [([48,48,48] : List UInt8),[48,48],[120],[51]] (by simp) (by simp) (by decide);simp only [er,Option.bind_some];exact ⟨_,_,rfl,o6.up (by omega),small_set hp (c:={ c with Trunk:=r }) ⟨c1,c2,hr,c4,c5⟩ _⟩
   ·simp only [cond_true]
    obtain ⟨r,er,hr⟩:=some_ [([] : List UInt8),[48,48,48,48,48],[120],[48],[51],[48,51],[48,51,48]] (by simp) (by simp) (by decide);simp only [er,Option.bind_some];exact ⟨_,_,rfl,o6.up (by omega),small_set hp (c:={ c with Abroad:=r }) ⟨c1,hr,c3,c4,c5⟩ _⟩
  ·simp only [cond_true]
   obtain ⟨r,er,hr⟩:=some_ [([] : List UInt8),[48],[52],[49,50,51,52],[97],[52,57]] (by simp) (by simp) (by decide);simp only [er,Option.bind_some];exact ⟨_,_,rfl,o6.up (by omega),small_set hp (c:={ c with Code:=r }) ⟨hr,c2,c3,c4,c5⟩ _⟩
theorem range_w (s : uT0) (lo hi k : Int) (hs : SOk s k) (hk : k ≤ 100000) (h2 : -4000000000000 ≤ lo) (h2' : lo ≤ 4000000000000) (h3 : hi ≤ 4000000000000) :
  ∃ s' r,uF61 s lo hi = some (s',r) ∧ SOk s' (k + 1) ∧ lo ≤ r ∧ (r ≤ hi ∨ r ≤ lo):=by
 by_cases hlt : hi < lo
 ·exact ⟨s,lo,by simp [uF61,hlt],hs.up (by omega),by omega,.inr (by omega)⟩
 ·obtain ⟨r,e,r1,r2⟩:=next_is s (hi - lo + 1) k hs (by omega) (by omega) (by omega)
  refine ⟨⟨s.L,s.at_ + 1⟩,lo + r,?_,hs.one,by omega,.inl (by omega)⟩;simp (disch:=omega) [uF61,hlt,w64,e,bnd]
theorem row_is (n : Int) (s : uT0) (k : Int) (h0 : 0 ≤ n) (hn : n ≤ 100) (hs : SOk s k) (hk : k ≤ 10000) : ∃ s' d,uF85a s n = some (s',d) ∧ SOk s' (k + n) ∧ (d.length : Int) ≤ n:=by
 obtain ⟨e,e1,e2,e3⟩:=loopO_ind (step:=fun s : List UInt8 × Int × uT0=>uF85 n s.1 s.2.1 s.2.2)
  (fun s=>0 ≤ s.2.1 ∧ s.2.1 ≤ n ∧ (s.1.length : Int) ≤ s.2.1 ∧ SOk s.2.2 (k + s.2.1)) (fun e=>SOk e.2 (k + n) ∧ (e.1.length : Int) ≤ n) (fun s=>(n - s.2.1).toNat) (by
   rintro ⟨d,w,t⟩ ⟨g1,g2,g3,g4⟩;simp only [] at g1 g2 g3 g4;by_cases hw : w < n
   ·obtain ⟨r,er,hr⟩:=some_in t [([48] : List UInt8),[49],[50],[51],[48],[57],[53]] (k + w) g4 (by omega) (by simp) (by simp)
    have hl : r.length = 1:=by
     simp only [List.mem_cons,List.not_mem_nil,or_false] at hr;rcases hr with rfl | rfl | rfl | rfl | rfl | rfl | rfl <;> rfl
    refine .inr ⟨(d ++ r,w + 1,⟨t.L,t.at_ + 1⟩),?_,⟨by simp only []; omega,by simp only []; omega,by simp only [List.length_append,hl]; omega,?_⟩,by simp only []; omega⟩
    ·simp only [uF85,decide_eq_true hw,cond_true,er,Option.bind_some,sadd_of (show d.length + r.length ≤ 4611686018427387904 by omega),w64 (n:=w + 1) (by omega) (by omega)]
    ·have:=g4.one; rwa [show k + w + 1 = k + (w + 1) from by omega] at this
   ·refine .inl ⟨(d,t),?_,?_,?_⟩
    ·simp only [uF85,decide_eq_false hw,cond_false]
    ·exact g4.up (by omega)
    ·simp only []; omega) ([],0,s) ⟨by simp,by simpa using h0,by simp,by simpa using hs⟩
 refine ⟨e.2,e.1,?_,e2,e3⟩;unfold uF85a;simp only [bnd,e1,Option.bind_some]
theorem number_is (s : uT0) (p : List uT1) (k : Int) (hs : SOk s k) (hk : k ≤ 1000) (hp : SmallP p) : ∃ s' n,uF27 s p = some (s',n) ∧ SOk s' (k + 40) ∧ n.length ≤ 100:=by
 obtain ⟨b,e1⟩:=flip_is s 6 k hs (by omega) (by omega) (by omega);have o1:=hs.one;have hl : (p.length : Int) = 3:=by have:=hp.1; omega
 have h3 : (p.length == 0) = false:=by rw [hp.1]; rfl
 have hany : uF83 p (fun a0=>uF84 a0) = some (p.any fun c=>((c.Areas.length : Int) == 0)) :=
  any_is _ _ _ (fun a _=>by simp only [uF84,bnd]) (by rw [hp.1]; omega)
 have e2 : (bif (b || ((p.length : Int) == 0)) then (some true) else ((uF83 p (fun a0=>uF84 a0)).bind fun y33=>some y33)) = some (b || p.any fun c=>((c.Areas.length : Int) == 0)):=by
  rw [hany,hl];cases b <;> simp
 unfold uF27;simp only [bnd,e1,Option.bind_some,e2];cases hb : b || p.any fun c=>((c.Areas.length : Int) == 0)
 ·simp only [cond_false]
  rw [Bool.or_eq_false_iff] at hb;obtain ⟨i,e3,i1,i2⟩:=next_is ⟨s.L,s.at_ + 1⟩ p.length (k + 1) o1 (by omega) (by omega) (by omega);have o2:=o1.one;obtain ⟨c,ec,hc⟩:=idx_of (l:=p) i1 i2;obtain ⟨c1,c2,c3,c4,c5⟩:=hp.2 c hc;have hne : c.Areas.length ≠ 0:=by
   have:=List.any_eq_false.1 hb.2 c hc
   simpa using this
  obtain ⟨j,e4,j1,j2⟩:=next_is ⟨s.L,s.at_ + 1 + 1⟩ c.Areas.length (k + 1 + 1) o2 (by omega) (by omega) (by omega);have o3:=o2.one;obtain ⟨a,ea,ha⟩:=idx_of (l:=c.Areas) j1 j2;obtain ⟨a1,a2,a3,a4,a5⟩:=c5 a ha;have hs1 : sadd [43] c.Code = some (43 :: c.Code):=sadd_of (by simp; omega);have hs2 : sadd (43 :: c.Code) a.Prefix = some (43 :: c.Code ++ a.Prefix):=sadd_of (by simp; omega);simp only [e3,ec,e4,ea,Option.bind_some,hs1,hs2];have m1 : -4000000000000 ≤ gmin a.Low 12 ∧ gmin a.Low 12 ≤ 12:=by unfold gmin; split <;> omega
  have m2 : gmin a.High 13 ≤ 13:=by unfold gmin; split <;> omega
  generalize gmin a.Low 12 = lo at m1;generalize gmin a.High 13 = hi at m2;obtain ⟨t,r,e5,o4,r1,r2⟩:=range_w ⟨s.L,s.at_ + 1 + 1 + 1⟩ lo hi _ o3 (by omega) (by omega) (by omega) (by omega);obtain ⟨q,e6,hq⟩:=pick_in t [0,0,0,0,0,1,-1] _ o4 (by omega) (by simp) (by simp);have o5:=o4.one;have hq' : -1 ≤ q ∧ q ≤ 1:=by
   simp only [List.mem_cons,List.not_mem_nil,or_false] at hq;omega
  simp only [e5,e6,Option.bind_some];rw [w64 (n:=r - (a.Prefix.length : Int)) (by omega) (by omega),w64 (n:=r - (a.Prefix.length : Int) + q) (by omega) (by omega)];have m3 : 0 ≤ gmax 0 (r - (a.Prefix.length : Int) + q) ∧ gmax 0 (r - (a.Prefix.length : Int) + q) ≤ 14:=by unfold gmax; split <;> omega
  generalize gmax 0 (r - (a.Prefix.length : Int) + q) = many at m3;obtain ⟨t',d,e7,o6,hd⟩:=row_is many ⟨t.L,t.at_ + 1⟩ _ m3.1 (by omega) o5 (by omega);have hs3 : sadd (43 :: c.Code ++ a.Prefix) d = some (43 :: c.Code ++ a.Prefix ++ d):=sadd_of (by simp; omega);simp only [e7,hs3,Option.bind_some];exact ⟨_,_,rfl,o6.up (by omega),by simp; omega⟩
 ·simp only [cond_true]
  obtain ⟨r,er,hr⟩:=some_in ⟨s.L,s.at_ + 1⟩ [([] : List UInt8),[43],[43,49,50,51],[43,48,49,50,51],[52,57,51,48,49],[43,52,57,51,48,49,50,51,52,53,54,55,56,57,48,49,50,51],[43,55,49,50,51],[43,52,57,49,49],[43,52,57,51,48],[43,52,57,51,48,49,50,51,52,53,54,55,56],[43,49,50,48,57]] (k + 1) o1 (by omega) (by simp) (by simp);have hlen : r.length ≤ 100:=by
   have:=List.all_eq_true.1 (show ([([] : List UInt8),[43],[43,49,50,51],[43,48,49,50,51],[52,57,51,48,49],[43,52,57,51,48,49,50,51,52,53,54,55,56,57,48,49,50,51],[43,55,49,50,51],[43,52,57,49,49],[43,52,57,51,48],[43,52,57,51,48,49,50,51,52,53,54,55,56],[43,49,50,48,57]].all fun x=>decide (x.length ≤ 100)) = true by decide) r hr
   simpa using this
  simp only [er,Option.bind_some];exact ⟨_,_,rfl,o1.one.up (by omega),hlen⟩
abbrev Ltw (x y : List UInt8) : Prop:=x ≤ y ∧ x ≠ y
theorem strict_ext : ∀ {l m : List (List UInt8)},l.Pairwise Ltw → m.Pairwise Ltw → (∀ x,x ∈ l ↔ x ∈ m) → l = m
 | [],[],_,_,_=>rfl
 | [],b :: m,_,_,h=>by have:=(h b).2 (by simp); simp at this
 | a :: l,[],_,_,h=>by have:=(h a).1 (by simp); simp at this
 | a :: l,b :: m,hl,hm,h=>by
  obtain ⟨l1,l2⟩:=List.pairwise_cons.1 hl
  obtain ⟨m1,m2⟩:=List.pairwise_cons.1 hm
  have hab : a = b:=by
   by_cases e : a = b
   ·exact e
   ·have h1 : a ∈ m:=by
     rcases List.mem_cons.1 ((h a).1 (by simp)) with h1 | h1
     ·exact absurd h1 e
     ·exact h1
    have h2 : b ∈ l:=by
     rcases List.mem_cons.1 ((h b).2 (by simp)) with h2 | h2
     ·exact absurd h2.symm e
     ·exact h2
    exact List.le_antisymm (l1 b h2).1 (m1 a h1).1
  subst hab
  congr 1
  refine strict_ext l2 m2 fun x=>?_
  have hx:=h x
  constructor
  ·intro hxl
   rcases List.mem_cons.1 (hx.1 (List.mem_cons_of_mem _ hxl)) with h1 | h1
   ·exact absurd h1.symm (l1 x hxl).2
   ·exact h1
  ·intro hxm
   rcases List.mem_cons.1 (hx.2 (List.mem_cons_of_mem _ hxm)) with h1 | h1
   ·exact absurd h1.symm (m1 x hxm).2
   ·exact h1
theorem arr_get (l : List (List UInt8)) (j : Nat) (hj : j < l.length) : l.toArray[j]! = l[j]:=by simp [hj]
theorem compact_upto (l : List (List UInt8)) (h : l.Pairwise (· ≤ ·)) : ∀ m,m ≤ l.length →
  (Lib.compactUpTo l.toArray m).Pairwise Ltw ∧ ∀ x,x ∈ Lib.compactUpTo l.toArray m ↔ ∃ j,j < m ∧ l[j]? = some x:=by
 intro m;induction m with
 | zero=>intro _; simp [Lib.compactUpTo]
 | succ m ih =>
  intro hm;obtain ⟨i1,i2⟩:=ih (by omega);have hlt : m < l.length:=by omega
  have hmm : l[m]? = some l[m]:=by simp [hlt]
  have hle : ∀ j,j < m → ∀ x,l[j]? = some x → x ≤ l[m]:=fun j hj x hx=>by
   obtain ⟨h1,rfl⟩:=List.getElem?_eq_some_iff.1 hx;exact List.pairwise_iff_getElem.1 h j m h1 hlt hj
  rw [Lib.compactUpTo_succ,arr_get l m hlt];by_cases hk : Lib.keeps l.toArray m = true
  ·rw [if_pos hk]
   refine ⟨List.pairwise_append.2 ⟨i1,by simp,?_⟩,?_⟩
   ·intro x hx y hy
    simp only [List.mem_singleton] at hy;subst hy;obtain ⟨j,hj,hx⟩:=(i2 x).1 hx;refine ⟨hle j hj x hx,?_⟩;rintro rfl;simp only [Lib.keeps,decide_eq_true_eq] at hk;rcases hk with hk | hk
    ·omega
    ·rw [arr_get l m hlt,arr_get l (m - 1) (by omega)] at hk
     apply hk;have h3 : l[m - 1] ≤ l[m]:=List.pairwise_iff_getElem.1 h (m - 1) m (by omega) hlt (by omega);refine List.le_antisymm ?_ h3;by_cases e : j = m - 1
     ·subst e
      have:=(List.getElem?_eq_some_iff.1 hx).2
      rw [← this]; exact List.le_refl _
     ·obtain ⟨h4,h5⟩:=List.getElem?_eq_some_iff.1 hx
      rw [← h5];exact List.pairwise_iff_getElem.1 h j (m - 1) h4 (by omega) (by omega)
   ·intro x
    rw [List.mem_append,i2,List.mem_singleton];constructor
    ·rintro (⟨j,hj,hx⟩ | rfl)
     ·exact ⟨j,by omega,hx⟩
     ·exact ⟨m,by omega,hmm⟩
    ·rintro ⟨j,hj,hx⟩
     by_cases e : j = m
     ·subst e
      rw [hmm] at hx;exact .inr (Option.some.inj hx).symm
     ·exact .inl ⟨j,by omega,hx⟩
  ·rw [if_neg hk,List.append_nil]
   refine ⟨i1,fun x=>?_⟩;rw [i2];constructor
   ·rintro ⟨j,hj,hx⟩
    exact ⟨j,by omega,hx⟩
   ·rintro ⟨j,hj,hx⟩
    by_cases e : j = m
    ·subst e
     simp only [Lib.keeps,decide_eq_true_eq,not_or,Decidable.not_not] at hk;obtain ⟨k1,k2⟩:=hk;rw [arr_get l j hlt,arr_get l (j - 1) (by omega)] at k2;refine ⟨j - 1,by omega,?_⟩;rw [List.getElem?_eq_getElem (by omega : j - 1 < l.length),← k2,← hmm,hx]
    ·exact ⟨j,by omega,hx⟩
theorem once_is {l : List (List UInt8)} : (Lib.compact (srtS l)).Pairwise Ltw ∧ ∀ x,x ∈ Lib.compact (srtS l) ↔ x ∈ l:=by
 have hs : (srtS l).Pairwise (· ≤ ·):=by
  have:=List.pairwise_mergeSort (le:=fun x y : List UInt8=>decide (x ≤ y)) (fun a b c h1 h2=>by
   simp only [decide_eq_true_eq] at h1 h2 ⊢;exact List.le_trans h1 h2) (fun a b=>by
   simp only [Bool.or_eq_true,decide_eq_true_eq];exact List.le_total a b) l
  exact this.imp (by intro a b h; simpa using h)
 obtain ⟨h1,h2⟩:=compact_upto (srtS l) hs (srtS l).length (Nat.le_refl _);refine ⟨h1,fun x=>?_⟩;show x ∈ Lib.compactUpTo _ _ ↔ _;rw [h2];have : x ∈ srtS l ↔ x ∈ l:=List.mem_mergeSort;rw [← this,List.mem_iff_getElem?];constructor
 ·rintro ⟨j,_,hj⟩; exact ⟨j,hj⟩
 ·rintro ⟨j,hj⟩; exact ⟨j,(List.getElem?_eq_some_iff.1 hj).1,hj⟩
theorem once_ext {l m : List (List UInt8)} (h : ∀ x,x ∈ l ↔ x ∈ m) : Lib.compact (srtS l) = Lib.compact (srtS m) :=
 strict_ext once_is.1 once_is.1 fun x=>by rw [once_is.2,once_is.2,h]

def repA (a : List UInt8) (i : Nat) (d : UInt8) : List UInt8:=a.take i ++ [d] ++ a.drop (i + 1)
def insA (a : List UInt8) (i : Nat) (d : UInt8) : List UInt8:=a.take i ++ [d] ++ a.drop i
def delA (a : List UInt8) (i : Nat) : List UInt8:=a.take i ++ a.drop (i + 1)
def trnA (a : List UInt8) (i : Nat) : List UInt8:=a.take i ++ (a.drop (i + 1)).take 1 ++ (a.drop i).take 1 ++ a.drop (i + 2)
theorem repA_len {a : List UInt8} {i : Nat} {d : UInt8} (h : i < a.length) : (repA a i d).length = a.length:=by
 simp [repA]; omega
theorem insA_len {a : List UInt8} {i : Nat} {d : UInt8} (h : i ≤ a.length) : (insA a i d).length = a.length + 1:=by
 simp [insA]; omega
theorem delA_len {a : List UInt8} {i : Nat} (h : i < a.length) : (delA a i).length = a.length - 1:=by
 simp [delA]; omega
theorem trnA_len {a : List UInt8} {i : Nat} (h : i + 1 < a.length) : (trnA a i).length = a.length:=by
 simp [trnA]; omega
def diff : List UInt8 → List UInt8 → Nat
  | x :: a,y :: b=>(if x = y then 0 else 1) + diff a b
  | _,_=>0
theorem diff_self : ∀ a,diff a a = 0
 | []=>rfl
 | x :: a=>by simp [diff,diff_self a]
theorem diff_zero : ∀ {a b : List UInt8},a.length = b.length → diff a b = 0 → a = b
 | [],[],_,_=>rfl
 | [],_ :: _,h,_=>by simp at h
 | _ :: _,[],h,_=>by simp at h
 | x :: a,y :: b,h,e=>by
  simp only [diff] at e
  by_cases hxy : x = y
  ·subst hxy
   have:=diff_zero (a:=a) (b:=b) (by simpa using h) (by simpa using e)
   rw [this]
  ·rw [if_neg hxy] at e; omega
theorem diff_one : ∀ {a b : List UInt8},a.length = b.length → diff a b = 1 → ∃ i d,i < a.length ∧ d ∈ b ∧ b = repA a i d
 | [],[],_,e=>by simp [diff] at e
 | [],_ :: _,h,_=>by simp at h
 | _ :: _,[],h,_=>by simp at h
 | x :: a,y :: b,h,e=>by
  simp only [diff] at e
  by_cases hxy : x = y
  ·subst hxy
   obtain ⟨i,d,h1,h2,h3⟩:=diff_one (a:=a) (b:=b) (by simpa using h) (by simpa using e)
   exact ⟨i + 1,d,by simp; omega,by simp [h2],by rw [h3]; simp [repA]⟩
  ·rw [if_neg hxy] at e
   have:=diff_zero (a:=a) (b:=b) (by simpa using h) (by omega)
   subst this
   exact ⟨0,y,by simp,by simp,by simp [repA]⟩
theorem diff_rep : ∀ (a : List UInt8) (i : Nat) (d : UInt8),i < a.length → repA a i d ≠ a → diff a (repA a i d) = 1
 | [],_,_,h,_=>by simp at h
 | x :: a,0,d,_,hn=>by
  simp only [repA,List.take_zero,List.nil_append,Nat.zero_add,List.drop_succ_cons,List.drop_zero,List.singleton_append,diff,diff_self] at hn ⊢
  rw [if_neg (fun e=>hn (by rw [e]))]
 | x :: a,i + 1,d,h,hn=>by
  have e : repA (x :: a) (i + 1) d = x :: repA a i d:=by simp [repA]
  rw [e] at hn ⊢
  simp only [diff,if_true,Nat.zero_add]
  exact diff_rep a i d (by simpa using h) (fun q=>hn (by rw [q]))
theorem diff_take : ∀ (a b : List UInt8) (k : Nat),a.length = b.length → k < a.length → diff (a.take (k + 1)) (b.take (k + 1)) = diff (a.take k) (b.take k) + (if a[k]? = b[k]? then 0 else 1)
 | [],_,_,_,h=>by simp at h
 | x :: a,[],_,h,_=>by simp at h
 | x :: a,y :: b,0,_,_=>by simp [diff]
 | x :: a,y :: b,k + 1,h,hk=>by
  have:=diff_take a b k (by simpa using h) (by simpa using hk)
  rw [List.take_succ_cons,List.take_succ_cons,List.take_succ_cons,List.take_succ_cons]
  simp only [diff,this,List.getElem?_cons_succ]
  omega
theorem diff_le : ∀ a b : List UInt8,diff a b ≤ a.length
 | [],_=>by simp [diff]
 | _ :: _,[]=>by simp [diff]
 | x :: a,y :: b=>by
  have:=diff_le a b
  simp only [diff,List.length_cons]
  split <;> omega
theorem ins_of_del {a b : List UInt8} {i : Nat} (hi : i < b.length) (h : delA b i = a) : i ≤ a.length ∧ b = insA a i b[i]:=by
 subst h;have h1 : (b.take i).length = i:=by simp; omega
 refine ⟨by simp [delA]; omega,?_⟩;simp only [insA,delA];rw [List.take_append_of_le_length (by omega),List.drop_append_of_le_length (by omega),List.take_take,Nat.min_self,List.drop_eq_nil_of_le (by omega),List.nil_append,List.append_assoc,List.singleton_append,← List.drop_eq_getElem_cons hi,List.take_append_drop]
theorem del_of_ins {a : List UInt8} {i : Nat} {d : UInt8} (hi : i ≤ a.length) : delA (insA a i d) i = a:=by
 have h1 : (a.take i).length = i:=by simp; omega
 simp only [insA,delA,List.append_assoc,List.singleton_append];rw [List.take_append_of_le_length (by omega),List.take_take,Nat.min_self];rw [List.drop_append,List.drop_eq_nil_of_le (by omega),List.nil_append,h1,show i + 1 - i = 1 from by omega,List.drop_succ_cons,List.drop_zero,List.take_append_drop]
def slAt (a : List UInt8) (kind : Int) (i : Nat) (d : UInt8) : List (List UInt8) :=
  if kind = 5 then [insA a i d] else if i = a.length then [] else if kind = 2 then [repA a i d] else if kind = 4 then [delA a i] else if kind = 3 ∧ i + 1 < a.length then [trnA a i] else []
def slRow (a : List UInt8) (kind : Int) (i : Nat) : List (List UInt8):=digs.flatMap (slAt a kind i)
def slL (a : List UInt8) (kind : Int) : List (List UInt8):=(List.range (a.length + 1)).flatMap (slRow a kind)
theorem slAt_len (a : List UInt8) (kind : Int) (i : Nat) (d : UInt8) : (slAt a kind i d).length ≤ 1:=by
 unfold slAt;split
 ·simp
 ·split
  ·simp
  ·split
   ·simp
   ·split
    ·simp
    ·split <;> simp
theorem fm_len {α β : Type} {f : α → List β} {n : Nat} : ∀ l : List α,(∀ a ∈ l,(f a).length ≤ n) → (l.flatMap f).length ≤ n * l.length
 | [],_=>by simp
 | a :: l,h=>by
  have h1:=fm_len l fun b hb=>h b (List.mem_cons_of_mem _ hb)
  have h2:=h a (by simp)
  rw [List.flatMap_cons,List.length_append,List.length_cons,Nat.mul_succ]
  omega
theorem slRow_len (a : List UInt8) (kind : Int) (i : Nat) : (slRow a kind i).length ≤ 10:=by
 have : (digs.flatMap (slAt a kind i)).length ≤ 1 * digs.length:=fm_len (f:=slAt a kind i) (n:=1) digs fun d _=>slAt_len a kind i d;exact this
theorem ten_at : ∀ k : Nat,k < 10 → itNext (digs,k) = (digs,k + 1) ∧ itMore (digs,k) = true ∧ ∃ d,digs[k]? = some d ∧ runeStr (itRune (digs,k)) = [d]:=by
 intro k hk;have h : ∀ k : Nat,k < 10 → itNext (digs,k) = (digs,k + 1) ∧ itMore (digs,k) = true ∧ runeStr (itRune (digs,k)) = [digs[k]!]:=by decide
 obtain ⟨h1,h2,h3⟩:=h k hk;refine ⟨h1,h2,digs[k]!,?_,h3⟩;have : k < digs.length:=hk;simp [this]
theorem fm_take {α β : Type} (f : α → List β) (l : List α) (k : Nat) (d : α) (h : l[k]? = some d) : (l.take (k + 1)).flatMap f = (l.take k).flatMap f ++ f d:=by
 rw [List.take_add_one,h]; simp
theorem sub_mid {α : Type} {l : List α} {i j : Nat} (h1 : i ≤ j) (h2 : j ≤ l.length) : sub l (i : Int) (j : Int) = some ((l.take j).drop i):=by
 unfold sub;rw [if_pos (by omega)]; simp
theorem dr1 {α : Type} (l : List α) (i : Nat) : (l.take (i + 1)).drop i = (l.drop i).take 1:=by
 rw [List.drop_take]; congr 1; omega
theorem sl_step {a : List UInt8} {kind : Int} {i k : Nat} (ha : a.length ≤ 1000) (hi : i ≤ a.length) {w : List (List UInt8)} (hw : w.length ≤ 100000) (hk : k < 10) {d : UInt8} (hd : digs[k]? = some d) :
  uF122 a kind (i : Int) w (digs,k) = some (.inl (w ++ slAt a kind i d,(digs,k + 1))):=by
 obtain ⟨t1,t2,d',t3,t4⟩:=ten_at k hk;rw [hd] at t3;obtain rfl:=Option.some.inj t3;unfold uF122 slAt;rw [t1,t2];simp only [bnd];rw [t4];have e1 : sub a 0 (i : Int) = some (a.take i):=sub_take hi;have e2 : sub a (i : Int) (a.length : Int) = some (a.drop i):=sub_drop hi;have w1 : IntKind.wrap .i64 ((i : Int) + 1) = ((i + 1 : Nat) : Int):=by rw [w64] <;> omega
 have w2 : IntKind.wrap .i64 ((i : Int) + 2) = ((i + 2 : Nat) : Int):=by rw [w64] <;> omega
 have e3 : sadd (a.take i) [d] = some (a.take i ++ [d]):=sadd_of (by simp; omega);have e4 : sadd (a.take i ++ [d]) (a.drop i) = some (insA a i d):=sadd_of (by simp; omega);have hp : ∀ y,app 16 w [y] = some (w ++ [y]):=fun y=>app_of (by simp; omega) (by simp; omega);simp only [cond_true];by_cases h5 : kind = 5
 ·subst h5
  simp only [beq_self_eq_true,cond_true,e1,e2,e3,e4,hp,Option.bind_some,if_true]
 ·have h5' : (kind == 5) = false:=by simpa using h5
  rw [h5',if_neg h5];simp only [cond_false];by_cases hl : i = a.length
  ·have hl' : ((i : Int) == (a.length : Int)) = true:=by rw [hl]; simp
   rw [hl',if_pos hl];simp
  ·have hl' : ((i : Int) == (a.length : Int)) = false:=by simpa using (by omega : ¬ (i : Int) = (a.length : Int))
   have hlt : i < a.length:=by omega
   rw [hl',if_neg hl];simp only [cond_false];have e5 : sub a ((i + 1 : Nat) : Int) (a.length : Int) = some (a.drop (i + 1)):=sub_drop hlt;have e6 : sadd (a.take i ++ [d]) (a.drop (i + 1)) = some (repA a i d):=sadd_of (by simp; omega);have e7 : sadd (a.take i) (a.drop (i + 1)) = some (delA a i):=sadd_of (by simp; omega);by_cases h2 : kind = 2
   ·subst h2
    simp only [beq_self_eq_true,cond_true,e1,w1,e3,e5,e6,hp,Option.bind_some,if_true]
   ·have h2' : (kind == 2) = false:=by simpa using h2
    rw [h2',if_neg h2];simp only [cond_false];by_cases h4 : kind = 4
    ·subst h4
     simp only [beq_self_eq_true,cond_true,e1,w1,e5,e7,hp,Option.bind_some,if_true]
    ·have h4' : (kind == 4) = false:=by simpa using h4
     rw [h4',if_neg h4];simp only [cond_false,w1];by_cases h3 : kind = 3 ∧ i + 1 < a.length
     ·have h3' : ((kind == 3) && decide (((i + 1 : Nat) : Int) < (a.length : Int))) = true:=by simp [h3.1]; omega
      rw [h3',if_pos h3];have e8 : sub a ((i + 1 : Nat) : Int) ((i + 2 : Nat) : Int) = some ((a.drop (i + 1)).take 1):=by rw [sub_mid (by omega) (by omega),dr1]
      have e9 : sub a (i : Int) ((i + 1 : Nat) : Int) = some ((a.drop i).take 1):=by rw [sub_mid (by omega) (by omega),dr1]
      have e10 : sub a ((i + 2 : Nat) : Int) (a.length : Int) = some (a.drop (i + 2)):=sub_drop (by omega);have e11 : sadd (a.take i) ((a.drop (i + 1)).take 1) = some (a.take i ++ (a.drop (i + 1)).take 1):=sadd_of (by simp; omega);have e12 : sadd (a.take i ++ (a.drop (i + 1)).take 1) ((a.drop i).take 1) = some (a.take i ++ (a.drop (i + 1)).take 1 ++ (a.drop i).take 1):=sadd_of (by simp; omega);have e13 : sadd (a.take i ++ (a.drop (i + 1)).take 1 ++ (a.drop i).take 1) (a.drop (i + 2)) = some (trnA a i):=sadd_of (by simp; omega);simp only [cond_true,e1,w2,e8,e9,e10,e11,e12,e13,hp,Option.bind_some]
     ·have h3' : ((kind == 3) && decide (((i + 1 : Nat) : Int) < (a.length : Int))) = false:=by
       rw [Bool.and_eq_false_iff];by_cases q : kind = 3
       ·right; simp; omega
       ·left; simpa using q
      rw [h3',if_neg h3];simp
theorem sl_inner {a : List UInt8} {kind : Int} {i : Nat} (ha : a.length ≤ 1000) (hi : i ≤ a.length) {w : List (List UInt8)} (hw : w.length ≤ 90000) :
  loopO (fun s : List (List UInt8) × It=>uF122 a kind (i : Int) s.1 s.2) (w,(digs,0)) = some (w ++ slRow a kind i):=by
 have hn : ∀ k,((digs.take k).flatMap (slAt a kind i)).length ≤ 10:=fun k=>by
  have h1:=fm_len (f:=slAt a kind i) (n:=1) (digs.take k) fun d _=>slAt_len a kind i d;have h2 : (digs.take k).length ≤ 10:=by rw [List.length_take]; simp [digs]; omega
  omega
 have h:=loop_for (N:=10) (step:=fun s : List (List UInt8) × It=>uF122 a kind (i : Int) s.1 s.2) (fun k=>(w ++ (digs.take k).flatMap (slAt a kind i),(digs,k))) (w ++ slRow a kind i) (fun k hk=>by
  obtain ⟨_,_,d,hd,_⟩:=ten_at k hk
  have:=hn k
  show uF122 a kind (i : Int) _ _ = _;rw [sl_step ha hi (by rw [List.length_append]; omega) hk hd];rw [fm_take _ _ _ _ hd,List.append_assoc]) (by
  show uF122 a kind (i : Int) _ _ = _;unfold uF122;have : itMore (digs,10) = false:=rfl;simp only [bnd,this,cond_false];rw [show digs.take 10 = digs from rfl]; rfl)
 simpa using h
theorem slipsOf_is (a : List UInt8) (kind : Int) (ha : a.length ≤ 1000) : uF122b a kind = some (slL a kind):=by
 have hn : ∀ k,((List.range k).flatMap (slRow a kind)).length ≤ 10 * k:=fun k=>by
  have h1:=fm_len (f:=slRow a kind) (n:=10) (List.range k) fun d _=>slRow_len a kind d;simpa using h1
 have h:=loop_for (N:=a.length + 1) (step:=fun s : List (List UInt8) × Int=>uF122a a kind s.1 s.2) (fun k=>((List.range k).flatMap (slRow a kind),(k : Int))) (slL a kind) (fun k hk=>by
  have w1 : IntKind.wrap .i64 ((a.length : Int) + 1) = (a.length : Int) + 1:=by rw [w64] <;> omega
  have w2 : IntKind.wrap .i64 ((k : Int) + 1) = ((k + 1 : Nat) : Int):=by rw [w64] <;> omega
  have hd : decide ((k : Int) < (a.length : Int) + 1) = true:=decide_eq_true (by omega)
  have:=hn k
  show uF122a a kind _ _ = _;unfold uF122a;rw [w1,hd,w2];have h2:=sl_inner (kind:=kind) (i:=k) ha (by omega) (w:=(List.range k).flatMap (slRow a kind)) (by omega);unfold digs at h2;simp only [cond_true,h2,Option.bind_some];rw [List.range_succ]; simp) (by
  have w1 : IntKind.wrap .i64 ((a.length : Int) + 1) = (a.length : Int) + 1:=by rw [w64] <;> omega
  have hd : decide (((a.length + 1 : Nat) : Int) < (a.length : Int) + 1) = false:=decide_eq_false (by omega);show uF122a a kind _ _ = _;unfold uF122a;rw [w1,hd]; rfl)
 unfold uF122b;simp only [List.range_zero,List.flatMap_nil,Int.natCast_zero] at h;rw [h]; rfl
theorem mem_sl {a x : List UInt8} {kind : Int} : x ∈ slL a kind ↔ ∃ i,i ≤ a.length ∧ ∃ d ∈ digs,x ∈ slAt a kind i d:=by
 unfold slL slRow;simp only [List.mem_flatMap,List.mem_range];constructor
 ·rintro ⟨i,h1,d,h2,h3⟩; exact ⟨i,by omega,d,h2,h3⟩
 ·rintro ⟨i,h1,d,h2,h3⟩; exact ⟨i,by omega,d,h2,h3⟩
theorem mem_sl2 {a x : List UInt8} : x ∈ slL a 2 ↔ ∃ i,i < a.length ∧ ∃ d ∈ digs,x = repA a i d:=by
 rw [mem_sl];constructor
 ·rintro ⟨i,h1,d,h2,h3⟩
  simp only [slAt,show ¬ (2 : Int) = 5 from by omega,if_false,if_true] at h3;by_cases e : i = a.length
  ·simp [e] at h3
  ·rw [if_neg e] at h3
   exact ⟨i,by omega,d,h2,by simpa using h3⟩
 ·rintro ⟨i,h1,d,h2,rfl⟩
  refine ⟨i,by omega,d,h2,?_⟩;simp [slAt,show ¬ i = a.length from by omega]
theorem mem_sl5 {a x : List UInt8} : x ∈ slL a 5 ↔ ∃ i,i ≤ a.length ∧ ∃ d ∈ digs,x = insA a i d:=by
 rw [mem_sl];simp [slAt]
theorem mem_sl4 {a x : List UInt8} : x ∈ slL a 4 ↔ ∃ i,i < a.length ∧ x = delA a i:=by
 rw [mem_sl];constructor
 ·rintro ⟨i,h1,d,h2,h3⟩
  simp only [slAt,show ¬ (4 : Int) = 5 from by omega,show ¬ (4 : Int) = 2 from by omega,if_false,if_true] at h3;by_cases e : i = a.length
  ·simp [e] at h3
  ·rw [if_neg e] at h3
   exact ⟨i,by omega,by simpa using h3⟩
 ·rintro ⟨i,h1,rfl⟩
  refine ⟨i,by omega,48,by simp [digs],?_⟩;simp [slAt,show ¬ i = a.length from by omega]
theorem mem_sl3 {a x : List UInt8} : x ∈ slL a 3 ↔ ∃ i,i + 1 < a.length ∧ x = trnA a i:=by
 rw [mem_sl];constructor
 ·rintro ⟨i,h1,d,h2,h3⟩
  simp only [slAt,show ¬ (3 : Int) = 5 from by omega,show ¬ (3 : Int) = 2 from by omega,show ¬ (3 : Int) = 4 from by omega,if_false,true_and] at h3;by_cases e : i = a.length
  ·simp [e] at h3
  ·rw [if_neg e] at h3
   by_cases e2 : i + 1 < a.length
   ·rw [if_pos e2] at h3
    exact ⟨i,e2,by simpa using h3⟩
   ·simp [e2] at h3
 ·rintro ⟨i,h1,rfl⟩
  refine ⟨i,by omega,48,by simp [digs],?_⟩;simp [slAt,show ¬ i = a.length from by omega,h1]

theorem without_is {a : List UInt8} {i : Nat} (ha : a.length ≤ 1000) (hi : i < a.length) : uF119 a (i : Int) = some (delA a i):=by
 have w1 : IntKind.wrap .i64 ((i : Int) + 1) = ((i + 1 : Nat) : Int):=by rw [w64] <;> omega
 have e1 : sub a 0 (i : Int) = some (a.take i):=sub_take (by omega);have e5 : sub a ((i + 1 : Nat) : Int) (a.length : Int) = some (a.drop (i + 1)):=sub_drop hi;have e7 : sadd (a.take i) (a.drop (i + 1)) = some (delA a i):=sadd_of (by simp; omega);simp only [uF119,bnd,w1,e1,e5,e7,Option.bind_some]
theorem turned_is {a : List UInt8} {i : Nat} (ha : a.length ≤ 1000) (hi : i + 1 < a.length) : uF115 a (i : Int) = some (trnA a i):=by
 have w1 : IntKind.wrap .i64 ((i : Int) + 1) = ((i + 1 : Nat) : Int):=by rw [w64] <;> omega
 have w2 : IntKind.wrap .i64 ((i : Int) + 2) = ((i + 2 : Nat) : Int):=by rw [w64] <;> omega
 have e1 : sub a 0 (i : Int) = some (a.take i):=sub_take (by omega);have e8 : sub a ((i + 1 : Nat) : Int) ((i + 2 : Nat) : Int) = some ((a.drop (i + 1)).take 1):=by rw [sub_mid (by omega) (by omega),dr1]
 have e9 : sub a (i : Int) ((i + 1 : Nat) : Int) = some ((a.drop i).take 1):=by rw [sub_mid (by omega) (by omega),dr1]
 have e10 : sub a ((i + 2 : Nat) : Int) (a.length : Int) = some (a.drop (i + 2)):=sub_drop (by omega);have e11 : sadd (a.take i) ((a.drop (i + 1)).take 1) = some (a.take i ++ (a.drop (i + 1)).take 1):=sadd_of (by simp; omega);have e12 : sadd (a.take i ++ (a.drop (i + 1)).take 1) ((a.drop i).take 1) = some (a.take i ++ (a.drop (i + 1)).take 1 ++ (a.drop i).take 1):=sadd_of (by simp; omega);have e13 : sadd (a.take i ++ (a.drop (i + 1)).take 1 ++ (a.drop i).take 1) (a.drop (i + 2)) = some (trnA a i):=sadd_of (by simp; omega);simp only [uF115,bnd,w1,w2,e1,e8,e9,e10,e11,e12,e13,Option.bind_some]
theorem shorter_is {a b : List UInt8} (ha : a.length ≤ 1000) : uF116 a b = some (decide (∃ i,i < a.length ∧ delA a i = b)):=by
 have h:=first_loop (step:=fun s : Int=>uF116a a b s) (List.range a.length) (fun i=>(i : Int)) (fun i=>if delA a i = b then some true else none) () (fun i j hj=>by
  obtain ⟨h1,h2⟩:=List.getElem?_eq_some_iff.1 hj;simp only [List.length_range,List.getElem_range] at h1 h2;subst h2;have hd : decide ((i : Int) < (a.length : Int)) = true:=decide_eq_true (by omega);have w1 : IntKind.wrap .i64 ((i : Int) + 1) = ((i + 1 : Nat) : Int):=by rw [w64] <;> omega
  show uF116a a b _ = _;unfold uF116a;rw [hd,w1];simp only [cond_true,without_is ha h1,Option.bind_some];by_cases e : delA a i = b
  ·simp [e]
  ·have e' : (delA a i == b) = false:=by simpa using e
   simp only [e',e,cond_false,if_false]) (by
  show uF116a a b _ = _;simp [uF116a])
 unfold uF116;simp only [Int.natCast_zero] at h;rw [h];cases hf : (List.range a.length).findSome? (fun i=>if delA a i = b then some true else none) with
 | none =>
  rw [List.findSome?_eq_none_iff] at hf;have : ¬ ∃ i,i < a.length ∧ delA a i = b:=by
   rintro ⟨i,h1,h2⟩
   have:=hf i (by simpa using h1)
   simp [h2] at this
  simp [firstR,lret,this]
 | some r =>
  obtain ⟨i,h1,h2⟩:=List.exists_of_findSome?_eq_some hf;have h3 : delA a i = b:=by
   by_cases e : delA a i = b
   ·exact e
   ·simp [e] at h2
  have h4 : r = true:=by simp [h3] at h2; exact h2
  subst h4;have : ∃ i,i < a.length ∧ delA a i = b:=⟨i,by simpa using h1,h3⟩;simp [firstR,lret,this]
theorem trim_all (l c : List UInt8) (h : Lib.trimS l c = []) : ∀ x ∈ l,c.contains x = true:=by
 have dw : ∀ l : List UInt8,l.dropWhile (c.contains ·) = [] → ∀ x ∈ l,c.contains x = true:=by
  intro l;induction l with
  | nil=>intro _ x hx; simp at hx
  | cons a l ih =>
   intro h x hx;by_cases ha : c.contains a = true
   ·rw [List.dropWhile_cons_of_pos ha] at h
    rcases List.mem_cons.1 hx with rfl | hx
    ·exact ha
    ·exact ih h x hx
   ·rw [List.dropWhile_cons_of_neg ha] at h; cases h
 have hd : ∀ (l : List UInt8) (a : UInt8) (t : List UInt8),l.dropWhile (c.contains ·) = a :: t → c.contains a = false:=by
  intro l;induction l with
  | nil=>intro a t h; cases h
  | cons b l ih =>
   intro a t h;by_cases hb : c.contains b = true
   ·rw [List.dropWhile_cons_of_pos hb] at h; exact ih a t h
   ·rw [List.dropWhile_cons_of_neg hb] at h
    injection h with h1 h2;subst h1;simpa using hb
 unfold Lib.trimS Lib.trimLeftS Lib.trimRightS at h;have h1:=dw _ h;match hD : l.reverse.dropWhile (c.contains ·) with
 | []=>intro x hx; exact dw _ hD x (List.mem_reverse.2 hx)
 | a :: t =>
  have h2:=hd _ _ _ hD;have h3:=h1 a (by rw [hD]; simp);rw [h2] at h3; cases h3
theorem dig_mem {b : List UInt8} {lo hi : Int} (h : digB b lo hi = true) : ∀ d ∈ b,d ∈ digs:=by
 unfold digB at h;have h1 : Lib.trimS b digs = []:=by
  have:=(Bool.and_eq_true_iff.1 h).2
  simpa using this
 intro d hd
 have:=trim_all b digs h1 d hd
 simpa using this

def slipK (a b : List UInt8) : Int :=
  if a = b then 1 else if a.length = b.length then (if diff a b = 1 then 2 else if ∃ i,i < a.length - 1 ∧ trnA a i = b then 3 else 0)
    else if a.length = b.length + 1 then (if ∃ i,i < a.length ∧ delA a i = b then 4 else 0)
    else if b.length = a.length + 1 then (if ∃ i,i < b.length ∧ delA b i = a then 5 else 0) else 0

theorem diff_loop {a b : List UInt8} (hl : a.length = b.length) (ha : a.length ≤ 1000) : loopO (fun s : Int × Int=>uF54 a b s.1 s.2) (0,0) = some (diff a b : Int):=by
 have h:=loop_for (N:=a.length) (step:=fun s : Int × Int=>uF54 a b s.1 s.2) (fun k=>((diff (a.take k) (b.take k) : Int),(k : Int))) (diff a b : Int) (fun k hk=>by
  have hd : decide ((k : Int) < (a.length : Int)) = true:=decide_eq_true (by omega);have w1 : IntKind.wrap .i64 ((k : Int) + 1) = ((k + 1 : Nat) : Int):=by rw [w64] <;> omega
  have hle:=diff_le (a.take k) (b.take k);rw [List.length_take] at hle;have w2 : IntKind.wrap .i64 ((diff (a.take k) (b.take k) : Int) + 1) = ((diff (a.take k) (b.take k) + 1 : Nat) : Int):=by rw [w64] <;> omega
  show uF54 a b _ _ = _;unfold uF54;rw [diff_take a b k hl hk,hd,w1,w2];simp only [cond_true,idx_at hk,idx_at (show k < b.length by omega),Option.bind_some,bnd];have hg : (a[k]? = b[k]?) ↔ a[k] = b[k]'(by omega):=by
   rw [List.getElem?_eq_getElem hk,List.getElem?_eq_getElem (by omega)];exact Option.some_inj
  by_cases e : a[k] = b[k]'(by omega)
  ·rw [if_pos (hg.2 e),e]; simp
  ·rw [if_neg (fun q=>e (hg.1 q))]
   have : (((a[k].toNat : Int)) != (((b[k]'(by omega)).toNat : Int))) = true:=by
    simp only [bne_iff_ne,ne_eq];intro q;exact e (UInt8.toNat_inj.1 (by omega))
   rw [this]; rfl) (by
  show uF54 a b _ _ = _;unfold uF54;have hd : decide (((a.length : Nat) : Int) < (a.length : Int)) = false:=decide_eq_false (by omega);rw [hd,List.take_of_length_le (by omega),List.take_of_length_le (by omega)]; rfl)
 simpa [diff] using h
theorem turn_loop {a b : List UInt8} (ha : a.length ≤ 1000) : loopO (fun s : Int=>uF54a a b s) 0 = some (if ∃ i,i < a.length - 1 ∧ trnA a i = b then .inr (3,0) else .inl ()):=by
 have h:=first_loop (step:=fun s : Int=>uF54a a b s) (List.range (a.length - 1)) (fun i=>(i : Int)) (fun i=>if trnA a i = b then some ((3 : Int),(0 : Int)) else none) () (fun i j hj=>by
  obtain ⟨h1,h2⟩:=List.getElem?_eq_some_iff.1 hj;simp only [List.length_range,List.getElem_range] at h1 h2;subst h2;have w1 : IntKind.wrap .i64 ((i : Int) + 1) = ((i + 1 : Nat) : Int):=by rw [w64] <;> omega
  have hd : decide (((i + 1 : Nat) : Int) < (a.length : Int)) = true:=decide_eq_true (by omega);show uF54a a b _ = _;unfold uF54a;rw [w1,hd];simp only [cond_true,turned_is ha (show i + 1 < a.length by omega),Option.bind_some,bnd];by_cases e : trnA a i = b
  ·simp [e]
  ·have e' : (trnA a i == b) = false:=by simpa using e
   simp only [e',e,cond_false,if_false]) (by
  have w1 : IntKind.wrap .i64 (((List.range (a.length - 1)).length : Int) + 1) = ((a.length - 1 + 1 : Nat) : Int):=by rw [List.length_range,w64] <;> omega
  have hd : decide (((a.length - 1 + 1 : Nat) : Int) < (a.length : Int)) = false:=decide_eq_false (by omega);show uF54a a b _ = _;unfold uF54a;rw [w1,hd]; rfl)
 simp only [Int.natCast_zero] at h;rw [h];cases hf : (List.range (a.length - 1)).findSome? (fun i=>if trnA a i = b then some ((3 : Int),(0 : Int)) else none) with
 | none =>
  rw [List.findSome?_eq_none_iff] at hf;have : ¬ ∃ i,i < a.length - 1 ∧ trnA a i = b:=by
   rintro ⟨i,h1,h2⟩
   have:=hf i (by simp; omega)
   simp [h2] at this
  rw [if_neg this]; rfl
 | some r =>
  obtain ⟨i,h1,h2⟩:=List.exists_of_findSome?_eq_some hf;have h3 : trnA a i = b:=by
   by_cases e : trnA a i = b
   ·exact e
   ·simp [e] at h2
  rw [if_pos h3] at h2;rw [if_pos (⟨i,by simp at h1; omega,h3⟩ : ∃ i,i < a.length - 1 ∧ trnA a i = b),← Option.some.inj h2]; rfl
theorem slip_is {a b : List UInt8} (ha : a.length ≤ 1000) (hb : b.length ≤ 1000) : uF54b a b = some (if digB a 1 30 = true ∧ digB b 1 30 = true then (slipK a b,0) else (0,3)):=by
 unfold uF54b;rw [dig_is' a 1 30 (by omega),dig_is' b 1 30 (by omega)];simp only [Option.bind_some];cases da : digB a 1 30 with
 | false=>simp
 | true =>
  cases db : digB b 1 30 with
  | false=>simp
  | true =>
   simp only [Bool.not_true,cond_false,Option.bind_some,and_self,if_true];unfold slipK;by_cases hab : a = b
   ·subst hab; simp
   ·have hab' : (a == b) = false:=by simpa using hab
    rw [hab',if_neg hab];simp only [cond_false];have w1 : IntKind.wrap .i64 ((b.length : Int) + 1) = (b.length : Int) + 1:=by rw [w64] <;> omega
    have w2 : IntKind.wrap .i64 ((a.length : Int) + 1) = (a.length : Int) + 1:=by rw [w64] <;> omega
    rw [w1,w2];by_cases hl : a.length = b.length
    ·have h1 : ((a.length : Int) == (b.length : Int)) = true:=by simp [hl]
     have h2 : ((a.length : Int) == (b.length : Int) + 1) = false:=by rw [hl]; simp; omega
     have h3 : ((b.length : Int) == (a.length : Int) + 1) = false:=by rw [hl]; simp; omega
     rw [h1,h2,h3,if_pos hl,diff_loop hl ha,turn_loop ha];simp only [cond_true,cond_false,Option.bind_some];by_cases hd : diff a b = 1
     ·simp [hd]
     ·have hd' : ((diff a b : Int) == 1) = false:=by simp; omega
      rw [hd',if_neg hd];simp only [cond_false];by_cases ht : ∃ i,i < a.length - 1 ∧ trnA a i = b
      ·rw [if_pos ht,if_pos ht]; rfl
      ·rw [if_neg ht,if_neg ht]; rfl
    ·have h1 : ((a.length : Int) == (b.length : Int)) = false:=by simp; omega
     rw [h1,if_neg hl];simp only [cond_false];by_cases h4 : a.length = b.length + 1
     ·have h4' : ((a.length : Int) == (b.length : Int) + 1) = true:=by rw [h4]; simp
      have h5' : ((b.length : Int) == (a.length : Int) + 1) = false:=by rw [h4]; simp; omega
      rw [h4',h5',if_pos h4,shorter_is ha];by_cases he : ∃ i,i < a.length ∧ delA a i = b
      ·rw [if_pos he]; simp [he]
      ·rw [if_neg he]; simp [he]
     ·have h4' : ((a.length : Int) == (b.length : Int) + 1) = false:=by simp; omega
      rw [h4',if_neg h4];simp only [cond_false,Option.bind_some];by_cases h5 : b.length = a.length + 1
      ·have h5' : ((b.length : Int) == (a.length : Int) + 1) = true:=by rw [h5]; simp
       rw [h5',if_pos h5,shorter_is hb];by_cases he : ∃ i,i < b.length ∧ delA b i = a
       ·rw [if_pos he]; simp [he]
       ·rw [if_neg he]; simp [he]
      ·have h5' : ((b.length : Int) == (a.length : Int) + 1) = false:=by simp; omega
       rw [h5',if_neg h5]; rfl
theorem slL_len (a : List UInt8) (kind : Int) : (slL a kind).length ≤ 10 * (a.length + 1):=by
 have h1 : (slL a kind).length ≤ 10 * (List.range (a.length + 1)).length:=fm_len (f:=slRow a kind) (n:=10) (List.range (a.length + 1)) fun d _=>slRow_len a kind d;rwa [List.length_range] at h1
theorem contains_sl {a b : List UInt8} {kind : Int} (ha : a.length ≤ 1000) : uF108 (slL a kind) b = some (decide (b ∈ slL a kind)):=by
 have h : uF169 (slL a kind) b = some (idxI (b == ·) (slL a kind)):=idxE_loop (slL a kind) b (by have:=slL_len a kind; omega);unfold uF108;simp only [h,Option.bind_some,bnd,idxI_any];congr 1;rw [Bool.eq_iff_iff];simp [List.any_eq_true]
theorem ref_slip {a b : List UInt8} (ha : a.length ≤ 1000) (hb : ∀ d ∈ b,d ∈ digs) : uF56a a b = some (slipK a b):=by
 unfold uF56a;have h:=first_loop (step:=fun s : Int=>uF56 a b s) [(2 : Int),3,4,5] (fun i=>(i : Int)) (fun k=>if b ∈ slL a k then some k else none) () (fun i k hk=>by
  have hlt:=(List.getElem?_eq_some_iff.1 hk).1;have w1 : IntKind.wrap .i64 ((i : Int) + 1) = ((i + 1 : Nat) : Int):=by
   simp at hlt;rw [w64] <;> omega
  have hd : decide ((i : Int) < (([(2 : Int),3,4,5] : List Int).length : Int)) = true:=decide_eq_true (by omega);show uF56 a b _ = _;unfold uF56;rw [w1,hd];simp only [cond_true,idx_nat,hk,Option.bind_some,slipsOf_is a k ha,contains_sl ha];by_cases e : b ∈ slL a k
  ·simp [e]
  ·simp [e]) (by
  show uF56 a b _ = _;simp [uF56])
 simp only [Int.natCast_zero] at h;rw [h];unfold slipK;by_cases hab : a = b
 ·subst hab; simp
 ·have hab' : (a == b) = false:=by simpa using hab
  rw [hab',if_neg hab];simp only [cond_false,List.findSome?_cons,List.findSome?_nil];have m2 : b ∈ slL a 2 ↔ a.length = b.length ∧ diff a b = 1:=by
   rw [mem_sl2];constructor
   ·rintro ⟨i,h1,d,_,rfl⟩
    exact ⟨(repA_len h1).symm,diff_rep a i d h1 (fun e=>hab e.symm)⟩
   ·rintro ⟨h1,h2⟩
    obtain ⟨i,d,h3,h4,h5⟩:=diff_one h1 h2;exact ⟨i,h3,d,hb d h4,h5⟩
  have m3 : b ∈ slL a 3 ↔ a.length = b.length ∧ ∃ i,i < a.length - 1 ∧ trnA a i = b:=by
   rw [mem_sl3];constructor
   ·rintro ⟨i,h1,rfl⟩
    exact ⟨(trnA_len h1).symm,i,by omega,rfl⟩
   ·rintro ⟨_,i,h1,h2⟩
    exact ⟨i,by omega,h2.symm⟩
  have m4 : b ∈ slL a 4 ↔ a.length = b.length + 1 ∧ ∃ i,i < a.length ∧ delA a i = b:=by
   rw [mem_sl4];constructor
   ·rintro ⟨i,h1,rfl⟩
    exact ⟨by rw [delA_len h1]; omega,i,h1,rfl⟩
   ·rintro ⟨_,i,h1,h2⟩
    exact ⟨i,h1,h2.symm⟩
  have m5 : b ∈ slL a 5 ↔ b.length = a.length + 1 ∧ ∃ i,i < b.length ∧ delA b i = a:=by
   rw [mem_sl5];constructor
   ·rintro ⟨i,h1,d,_,rfl⟩
    exact ⟨insA_len h1,i,by rw [insA_len h1]; omega,del_of_ins h1⟩
   ·rintro ⟨_,i,h1,h2⟩
    obtain ⟨h3,h4⟩:=ins_of_del h1 h2;exact ⟨i,h3,b[i],hb _ (List.getElem_mem _),h4⟩
  by_cases c1 : a.length = b.length
  ·rw [if_pos c1]
   by_cases c2 : diff a b = 1
   ·rw [if_pos c2,if_pos (m2.2 ⟨c1,c2⟩)]; rfl
   ·rw [if_neg c2,if_neg (fun q=>c2 (m2.1 q).2)]
    by_cases c3 : ∃ i,i < a.length - 1 ∧ trnA a i = b
    ·rw [if_pos c3,if_pos (m3.2 ⟨c1,c3⟩)]; rfl
    ·rw [if_neg c3,if_neg (fun q=>c3 (m3.1 q).2),if_neg (fun q=>by have:=(m4.1 q).1; omega),if_neg (fun q=>by have:=(m5.1 q).1; omega)]; rfl
  ·rw [if_neg c1,if_neg (fun q=>c1 (m2.1 q).1),if_neg (fun q=>c1 (m3.1 q).1)]
   by_cases c4 : a.length = b.length + 1
   ·rw [if_pos c4]
    by_cases c5 : ∃ i,i < a.length ∧ delA a i = b
    ·rw [if_pos c5,if_pos (m4.2 ⟨c4,c5⟩)]; rfl
    ·rw [if_neg c5,if_neg (fun q=>c5 (m4.1 q).2),if_neg (fun q=>by have:=(m5.1 q).1; omega)]; rfl
   ·rw [if_neg c4,if_neg (fun q=>c4 (m4.1 q).1)]
    by_cases c6 : b.length = a.length + 1
    ·rw [if_pos c6]
     by_cases c7 : ∃ i,i < b.length ∧ delA b i = a
     ·rw [if_pos c7,if_pos (m5.2 ⟨c6,c7⟩)]; rfl
     ·rw [if_neg c7,if_neg (fun q=>c7 (m5.1 q).2)]; rfl
    ·rw [if_neg c6,if_neg (fun q=>c6 (m5.1 q).1)]; rfl
def addL (p : List uT1) (s d : List UInt8) : List (List UInt8):=if (splitE p (43 :: d)).2 = 0 ∧ ¬ d = s then [43 :: d] else []
theorem addL_len (p : List uT1) (s d : List UInt8) : (addL p s d).length ≤ 1:=by
 unfold addL;split <;> simp
theorem add_is {p : List uT1} (hp : GoodP p) {s d : List UInt8} (hd : d.length ≤ 1000) {w : List (List UInt8)} (hw : w.length ≤ 100000) : uF118 d p s w = some (w ++ addL p s d):=by
 obtain ⟨x,h1,h2⟩:=split_is hp (43 :: d) (by simp; omega);have h3 : x.2 = (splitE p (43 :: d)).2:=congrArg (·.2) h2;have e1 : sadd [43] d = some (43 :: d):=sadd_of (by simp; omega);have e2 : app 16 w [43 :: d] = some (w ++ [43 :: d]):=app_of (by simp; omega) (by simp; omega);unfold uF118 addL;simp only [e1,Option.bind_some,h1,h3,e2];by_cases c1 : (splitE p (43 :: d)).2 = 0
 ·by_cases c2 : d = s
  ·simp [c2]
  ·have c2' : (d == s) = false:=by simpa using c2
   simp [c1,c2,c2']
 ·have c1' : ((splitE p (43 :: d)).2 == 0) = false:=by simpa using c1
  simp [c1,c1']
def rowD (p : List uT1) (s : List UInt8) (i : Nat) (d : UInt8) : List (List UInt8):=addL p s (insA s i d) ++ (if i < s.length then addL p s (repA s i d) else [])
def rowS (p : List uT1) (s : List UInt8) (i : Nat) : List (List UInt8) :=
  digs.flatMap (rowD p s i) ++ (if i < s.length then addL p s (delA s i) else []) ++ (if i + 1 < s.length then addL p s (trnA s i) else [])
def allS (p : List uT1) (s : List UInt8) : List (List UInt8):=(List.range (s.length + 1)).flatMap (rowS p s)
theorem if_len {α : Type} {c : Prop} [Decidable c] {l : List α} {n : Nat} (h : l.length ≤ n) : (if c then l else []).length ≤ n:=by
 split
 ·exact h
 ·simp
theorem rowD_len (p : List uT1) (s : List UInt8) (i : Nat) (d : UInt8) : (rowD p s i d).length ≤ 2:=by
 have h1:=addL_len p s (insA s i d);have h2 : (if i < s.length then addL p s (repA s i d) else []).length ≤ 1:=if_len (addL_len _ _ _);rw [rowD,List.length_append]; omega
theorem rows_len (p : List uT1) (s : List UInt8) (i k : Nat) : ((digs.take k).flatMap (rowD p s i)).length ≤ 20:=by
 have h1 : ((digs.take k).flatMap (rowD p s i)).length ≤ 2 * (digs.take k).length:=fm_len (f:=rowD p s i) (n:=2) (digs.take k) fun d _=>rowD_len p s i d;have h2 : (digs.take k).length ≤ 10:=by rw [List.length_take]; exact Nat.min_le_right _ _
 omega
theorem rowS_len (p : List uT1) (s : List UInt8) (i : Nat) : (rowS p s i).length ≤ 22:=by
 have h1:=rows_len p s i 10;have h0 : digs.take 10 = digs:=rfl;rw [h0] at h1;have h2 : (if i < s.length then addL p s (delA s i) else []).length ≤ 1:=if_len (addL_len _ _ _);have h3 : (if i + 1 < s.length then addL p s (trnA s i) else []).length ≤ 1:=if_len (addL_len _ _ _);rw [rowS,List.length_append,List.length_append]; omega
theorem digs_at (k : Nat) (hk : k < 10) : digs[k]? = some (UInt8.ofNat (48 + k)):=by
 have h : ∀ k : Nat,k < 10 → digs[k]? = some (UInt8.ofNat (48 + k)):=by decide
 exact h k hk
theorem in_loop {p : List uT1} (hp : GoodP p) {s : List UInt8} (hs : s.length ≤ 100) {i : Nat} (hi : i ≤ s.length) {w : List (List UInt8)} (hw : w.length ≤ 10000) :
  loopO (fun t : Int × List (List UInt8)=>uF55b p s (i : Int) t.1 t.2) (48,w) = some (w ++ digs.flatMap (rowD p s i)):=by
 have h:=loop_for (N:=10) (step:=fun t : Int × List (List UInt8)=>uF55b p s (i : Int) t.1 t.2) (fun k=>(((48 + k : Nat) : Int),w ++ (digs.take k).flatMap (rowD p s i))) (w ++ digs.flatMap (rowD p s i)) (fun k hk=>by
  have hd:=digs_at k hk;obtain ⟨d,hdd⟩ : ∃ d,d = UInt8.ofNat (48 + k):=⟨_,rfl⟩;rw [← hdd] at hd;have hb : bytesStr [((48 + k : Nat) : Int)] = [d]:=by rw [hdd]; rfl
  have hle : decide (((48 + k : Nat) : Int) ≤ 57) = true:=decide_eq_true (by omega);have w1 : IntKind.wrap .u8 (((48 + k : Nat) : Int) + 1) = ((48 + (k + 1) : Nat) : Int):=by rw [wu8] <;> omega
  have w2 : IntKind.wrap .i64 ((i : Int) + 1) = ((i + 1 : Nat) : Int):=by rw [w64] <;> omega
  have hlen:=rows_len p s i k;have e1 : sub s 0 (i : Int) = some (s.take i):=sub_take hi;have e2 : sub s (i : Int) (s.length : Int) = some (s.drop i):=sub_drop hi;have e3 : sadd (s.take i) [d] = some (s.take i ++ [d]):=sadd_of (by simp; omega);have e4 : sadd (s.take i ++ [d]) (s.drop i) = some (insA s i d):=sadd_of (by simp; omega);have hil : (insA s i d).length ≤ 1000:=by rw [insA_len hi]; omega
  have hwl : (w ++ (digs.take k).flatMap (rowD p s i)).length ≤ 20000:=by rw [List.length_append]; omega
  show uF55b p s (i : Int) _ _ = _;unfold uF55b;rw [hle,hb,w1,w2,fm_take _ _ _ _ hd];rw [← List.append_assoc];generalize w ++ (digs.take k).flatMap (rowD p s i) = W at hwl ⊢;have ha:=add_is hp (s:=s) hil (w:=W) (by omega);have hal:=addL_len p s (insA s i d);simp only [cond_true,e1,e2,e3,e4,ha,Option.bind_some,bnd,rowD];by_cases hlt : i < s.length
  ·have hlt' : decide ((i : Int) < (s.length : Int)) = true:=decide_eq_true (by omega)
   have e5 : sub s ((i + 1 : Nat) : Int) (s.length : Int) = some (s.drop (i + 1)):=sub_drop hlt;have e6 : sadd (s.take i ++ [d]) (s.drop (i + 1)) = some (repA s i d):=sadd_of (by simp; omega);have hb2:=add_is hp (s:=s) (d:=repA s i d) (by rw [repA_len hlt]; omega) (w:=W ++ addL p s (insA s i d)) (by rw [List.length_append]; omega);rw [hlt',if_pos hlt];simp only [cond_true,e1,e3,e5,e6,hb2,Option.bind_some,List.append_assoc]
  ·have hlt' : decide ((i : Int) < (s.length : Int)) = false:=decide_eq_false (by omega)
   rw [hlt',if_neg hlt];simp only [cond_false,List.append_nil]) (by
  show uF55b p s (i : Int) _ _ = _;unfold uF55b;have hle : decide (((48 + 10 : Nat) : Int) ≤ 57) = false:=rfl;rw [hle]; rfl)
 simpa using h
theorem slips_list {p : List uT1} (hp : GoodP p) {s : List UInt8} (hs : s.length ≤ 100) : loopO (fun t : Int × List (List UInt8)=>uF55a p s t.1 t.2) (0,[]) = some (allS p s):=by
 have hn : ∀ k,((List.range k).flatMap (rowS p s)).length ≤ 22 * k:=fun k=>by
  have h1 : ((List.range k).flatMap (rowS p s)).length ≤ 22 * (List.range k).length:=fm_len (f:=rowS p s) (n:=22) (List.range k) fun d _=>rowS_len p s d;rwa [List.length_range] at h1
 have h:=loop_for (N:=s.length + 1) (step:=fun t : Int × List (List UInt8)=>uF55a p s t.1 t.2) (fun k=>((k : Int),(List.range k).flatMap (rowS p s))) (allS p s) (fun i hi=>by
  have w1 : IntKind.wrap .i64 ((s.length : Int) + 1) = (s.length : Int) + 1:=by rw [w64] <;> omega
  have w2 : IntKind.wrap .i64 ((i : Int) + 1) = ((i + 1 : Nat) : Int):=by rw [w64] <;> omega
  have hd : decide ((i : Int) < (s.length : Int) + 1) = true:=decide_eq_true (by omega);have hl:=hn i;have h1:=in_loop hp hs (i:=i) (by omega) (w:=(List.range i).flatMap (rowS p s)) (by omega);have h20:=rows_len p s i 10;have h0 : digs.take 10 = digs:=rfl;rw [h0] at h20;show uF55a p s _ _ = _;unfold uF55a;rw [w1,hd,w2,List.range_succ,List.flatMap_append,List.flatMap_singleton,rowS];have hW9 : ((List.range i).flatMap (rowS p s)).length ≤ 9000:=by omega
  clear hl;generalize (List.range i).flatMap (rowS p s) = W at h1 hW9 ⊢;simp only [cond_true,h1,Option.bind_some];have hd1:=addL_len p s (delA s i);by_cases hlt : i < s.length
  ·have hlt' : decide ((i : Int) < (s.length : Int)) = true:=decide_eq_true (by omega)
   have h2:=add_is hp (s:=s) (d:=delA s i) (by rw [delA_len hlt]; omega) (w:=W ++ digs.flatMap (rowD p s i)) (by rw [List.length_append]; omega);rw [hlt',if_pos hlt];simp only [cond_true,without_is (show s.length ≤ 1000 by omega) hlt,h2,Option.bind_some];by_cases hl2 : i + 1 < s.length
   ·have hl2' : decide (((i + 1 : Nat) : Int) < (s.length : Int)) = true:=decide_eq_true (by omega)
    have h3:=add_is hp (s:=s) (d:=trnA s i) (by rw [trnA_len hl2]; omega) (w:=W ++ digs.flatMap (rowD p s i) ++ addL p s (delA s i)) (by rw [List.length_append,List.length_append]; omega);rw [hl2',if_pos hl2];simp only [cond_true,turned_is (show s.length ≤ 1000 by omega) hl2,h3,Option.bind_some];simp only [List.append_assoc]
   ·have hl2' : decide (((i + 1 : Nat) : Int) < (s.length : Int)) = false:=decide_eq_false (by omega)
    rw [hl2',if_neg hl2];simp only [cond_false,List.append_nil,List.append_assoc]
  ·have hlt' : decide ((i : Int) < (s.length : Int)) = false:=decide_eq_false (by omega)
   have hl2 : ¬ i + 1 < s.length:=by omega
   have hl2' : decide (((i + 1 : Nat) : Int) < (s.length : Int)) = false:=decide_eq_false (by omega);rw [hlt',if_neg hlt,hl2',if_neg hl2];simp only [cond_false,List.append_nil,Option.bind_some]) (by
  have w1 : IntKind.wrap .i64 ((s.length : Int) + 1) = (s.length : Int) + 1:=by rw [w64] <;> omega
  have hd : decide (((s.length + 1 : Nat) : Int) < (s.length : Int) + 1) = false:=decide_eq_false (by omega);show uF55a p s _ _ = _;unfold uF55a;rw [w1,hd]; rfl)
 simpa using h

def refS (p : List uT1) (s : List UInt8) : List (List UInt8):=[(2 : Int),3,4,5].flatMap fun k=>(slL s k).flatMap (addL p s)
theorem slAt_mem {a x : List UInt8} {kind : Int} {i : Nat} {d : UInt8} (hi : i ≤ a.length) (h : x ∈ slAt a kind i d) : x.length ≤ a.length + 1:=by
 unfold slAt at h;split at h
 ·obtain rfl : x = insA a i d:=by simpa using h
  rw [insA_len hi]; omega
 ·split at h
  ·simp at h
  ·split at h
   ·obtain rfl : x = repA a i d:=by simpa using h
    rw [repA_len (by omega)]; omega
   ·split at h
    ·obtain rfl : x = delA a i:=by simpa using h
     rw [delA_len (by omega)]; omega
    ·split at h
     ·rename_i h3
      obtain rfl : x = trnA a i:=by simpa using h
      rw [trnA_len h3.2]; omega
     ·simp at h
theorem slL_mem {a x : List UInt8} {kind : Int} (h : x ∈ slL a kind) : x.length ≤ a.length + 1:=by
 obtain ⟨i,hi,d,_,h⟩:=mem_sl.1 h;exact slAt_mem hi h
theorem ref_in {p : List uT1} (hp : GoodP p) (ha : Apart p) {s : List UInt8} (hs : s.length ≤ 100) {l : List (List UInt8)} (hl : l.length ≤ 2000) (hm : ∀ x ∈ l,x.length ≤ 1000) {w : List (List UInt8)} (hw : w.length ≤ 90000) :
  loopO (fun t : List (List UInt8) × Int=>uF57a p (43 :: s) l t.1 t.2) (w,0) = some (w ++ l.flatMap (addL p s)):=by
 have h:=loop_for (N:=l.length) (step:=fun t : List (List UInt8) × Int=>uF57a p (43 :: s) l t.1 t.2) (fun k=>(w ++ (l.take k).flatMap (addL p s),(k : Int))) (w ++ l.flatMap (addL p s)) (fun k hk=>by
  have hd : decide ((k : Int) < (l.length : Int)) = true:=decide_eq_true (by omega);have w1 : IntKind.wrap .i64 ((k : Int) + 1) = ((k + 1 : Nat) : Int):=by rw [w64] <;> omega
  have hx:=hm l[k] (List.getElem_mem _);have h1 : ((l.take k).flatMap (addL p s)).length ≤ 1 * (l.take k).length:=fm_len (f:=addL p s) (n:=1) (l.take k) fun d _=>addL_len p s d;rw [List.length_take] at h1;have hg : l[k]? = some l[k]:=by simp [hk]
  show uF57a p (43 :: s) l _ _ = _;unfold uF57a;rw [hd,w1,fm_take _ _ _ _ hg];have e1 : sadd [43] l[k] = some (43 :: l[k]):=sadd_of (by simp; omega);obtain ⟨W,hW⟩ : ∃ W,W = w ++ (l.take k).flatMap (addL p s):=⟨_,rfl⟩;rw [← List.append_assoc,← hW];have hWl : W.length ≤ 95000:=by rw [hW,List.length_append]; omega
  have e2 : app 16 W [43 :: l[k]] = some (W ++ [43 :: l[k]]):=app_of (by simp; omega) (by simp; omega);simp only [cond_true,idx_at hk,e1,ref_split hp ha (43 :: l[k]) (by simp; omega),e2,Option.bind_some,addL];by_cases c1 : (splitE p (43 :: l[k])).2 = 0
  ·by_cases c2 : l[k] = s
   ·simp [c2]
   ·have c2' : (l[k] == s) = false:=by simpa using c2
    simp [c1,c2,c2']
  ·have c1' : ((splitE p (43 :: l[k])).2 == 0) = false:=by simpa using c1
   simp [c1',c1]) (by
  show uF57a p (43 :: s) l _ _ = _;unfold uF57a;simp)
 simpa using h
theorem ref_list {p : List uT1} (hp : GoodP p) (ha : Apart p) {s : List UInt8} (hs : s.length ≤ 100) :
  loopO (fun t : List (List UInt8) × Int=>uF57 p (43 :: s) t.1 t.2) ([],0) = some (refS p s):=by
 have hrow : ∀ k,((slL s k).flatMap (addL p s)).length ≤ 2000:=fun k=>by
  have h1 : ((slL s k).flatMap (addL p s)).length ≤ 1 * (slL s k).length:=fm_len (f:=addL p s) (n:=1) (slL s k) fun d _=>addL_len p s d
  have:=slL_len s k
  omega
 have h:=loop_for (N:=4) (step:=fun t : List (List UInt8) × Int=>uF57 p (43 :: s) t.1 t.2) (fun k=>(([(2 : Int),3,4,5].take k).flatMap fun k=>(slL s k).flatMap (addL p s),(k : Int))) (refS p s) (fun k hk=>by
  have hg : ∃ z,[(2 : Int),3,4,5][k]? = some z:=⟨[(2 : Int),3,4,5][k],by simp [hk]⟩;obtain ⟨z,hg⟩:=hg;have hd : decide ((k : Int) < (([(2 : Int),3,4,5] : List Int).length : Int)) = true:=decide_eq_true (by simp; omega);have w1 : IntKind.wrap .i64 ((k : Int) + 1) = ((k + 1 : Nat) : Int):=by rw [w64] <;> omega
  have h1 : (([(2 : Int),3,4,5].take k).flatMap fun k=>(slL s k).flatMap (addL p s)).length ≤ 2000 * ([(2 : Int),3,4,5].take k).length:=fm_len (n:=2000) _ fun z _=>hrow z;have h2 : ([(2 : Int),3,4,5].take k).length ≤ 4:=by rw [List.length_take]; exact Nat.min_le_right _ _
  have e1 : sub (43 :: s) 1 ((43 :: s).length : Int) = some s:=sub_drop (l:=43 :: s) (k:=1) (by simp);show uF57 p (43 :: s) _ _ = _;unfold uF57;rw [hd,w1,fm_take _ _ _ _ hg];have h3:=ref_in hp ha hs (l:=slL s z) (by have:=slL_len s z; omega) (fun x hx=>by have:=slL_mem hx; omega) (w:=([(2 : Int),3,4,5].take k).flatMap fun k=>(slL s k).flatMap (addL p s)) (by omega);simp only [cond_true,idx_nat,hg,e1,Option.bind_some,slipsOf_is s z (by omega),h3]) (by
  show uF57 p (43 :: s) _ _ = _;unfold uF57;rfl)
 simpa using h
theorem mem_if {α : Type} {c : Prop} [Decidable c] {l : List α} {x : α} : x ∈ (if c then l else []) ↔ c ∧ x ∈ l:=by
 by_cases h : c <;> simp [h]
theorem same_mem (p : List uT1) (s : List UInt8) (x : List UInt8) : x ∈ allS p s ↔ x ∈ refS p s:=by
 have hr : x ∈ refS p s ↔ ∃ y,(y ∈ slL s 2 ∨ y ∈ slL s 3 ∨ y ∈ slL s 4 ∨ y ∈ slL s 5) ∧ x ∈ addL p s y:=by
  simp only [refS,List.flatMap_cons,List.flatMap_nil,List.append_nil,List.mem_append,List.mem_flatMap];constructor
  ·rintro (⟨y,h1,h2⟩ | ⟨y,h1,h2⟩ | ⟨y,h1,h2⟩ | ⟨y,h1,h2⟩)
   ·exact ⟨y,.inl h1,h2⟩
   ·exact ⟨y,.inr (.inl h1),h2⟩
   ·exact ⟨y,.inr (.inr (.inl h1)),h2⟩
   ·exact ⟨y,.inr (.inr (.inr h1)),h2⟩
  ·rintro ⟨y,h1 | h1 | h1 | h1,h2⟩
   ·exact .inl ⟨y,h1,h2⟩
   ·exact .inr (.inl ⟨y,h1,h2⟩)
   ·exact .inr (.inr (.inl ⟨y,h1,h2⟩))
   ·exact .inr (.inr (.inr ⟨y,h1,h2⟩))
 rw [hr];simp only [mem_sl2,mem_sl3,mem_sl4,mem_sl5];simp only [allS,rowS,rowD,List.mem_flatMap,List.mem_append,mem_if,List.mem_range];constructor
 ·rintro ⟨i,hi,((⟨d,hd,h | ⟨hl,h⟩⟩ | ⟨hl,h⟩) | ⟨hl,h⟩)⟩
  ·exact ⟨_,.inr (.inr (.inr ⟨i,by omega,d,hd,rfl⟩)),h⟩
  ·exact ⟨_,.inl ⟨i,hl,d,hd,rfl⟩,h⟩
  ·exact ⟨_,.inr (.inr (.inl ⟨i,hl,rfl⟩)),h⟩
  ·exact ⟨_,.inr (.inl ⟨i,hl,rfl⟩),h⟩
 ·rintro ⟨y,⟨i,hl,d,hd,rfl⟩ | ⟨i,hl,rfl⟩ | ⟨i,hl,rfl⟩ | ⟨i,hl,d,hd,rfl⟩,h⟩
  ·exact ⟨i,by omega,.inl (.inl ⟨d,hd,.inr ⟨hl,h⟩⟩)⟩
  ·exact ⟨i,by omega,.inr ⟨hl,h⟩⟩
  ·exact ⟨i,by omega,.inl (.inr ⟨hl,h⟩)⟩
  ·exact ⟨i,by omega,.inl (.inl ⟨d,hd,.inl h⟩)⟩
theorem split_prog {p : List uT1} (hp : GoodP p) (n : List UInt8) (hn : n.length ≤ 100000) : ∃ x,uF117 p n = some (x,if planE p = 0 then (splitE p n).2 else planE p):=by
 obtain ⟨x,h1,h2⟩:=split_is hp n hn;have h3 : x.2 = (splitE p n).2:=congrArg (·.2) h2;unfold uF117;simp only [check_plan hp,Option.bind_some,h1,h3];by_cases h0 : planE p = 0
 ·exact ⟨x.1.Parts,by simp [h0]⟩
 ·have h0' : (planE p != 0) = true:=by simpa using h0
  exact ⟨⟨[],[],[]⟩,by rw [h0',if_neg h0]; rfl⟩
theorem slips_bad {p : List uT1} (hp : GoodP p) (n : List UInt8) (hn : n.length ≤ 100000) {e : Int} (he : e = if planE p = 0 then (splitE p n).2 else planE p) (h0 : e ≠ 0) : uF55 p n = some ([],e):=by
 obtain ⟨x,h1⟩:=split_prog hp n hn;rw [← he] at h1;have h0' : (e != 0) = true:=by simpa using h0
 unfold uF55;rw [h1];simp only [Option.bind_some,h0',cond_true]
theorem allS_len (p : List uT1) (s : List UInt8) (hs : s.length ≤ 100) : (allS p s).length ≤ 10000:=by
 have h1 : (allS p s).length ≤ 22 * (List.range (s.length + 1)).length:=fm_len (f:=rowS p s) (n:=22) (List.range (s.length + 1)) fun d _=>rowS_len p s d;rw [List.length_range] at h1;omega
theorem refS_len (p : List uT1) (s : List UInt8) (hs : s.length ≤ 100) : (refS p s).length ≤ 100000:=by
 have hrow : ∀ k,((slL s k).flatMap (addL p s)).length ≤ 2000:=fun k=>by
  have h1 : ((slL s k).flatMap (addL p s)).length ≤ 1 * (slL s k).length:=fm_len (f:=addL p s) (n:=1) (slL s k) fun d _=>addL_len p s d
  have:=slL_len s k
  omega
 have h1 : (refS p s).length ≤ 2000 * [(2 : Int),3,4,5].length:=fm_len (n:=2000) _ fun z _=>hrow z;simp only [List.length_cons,List.length_nil] at h1;omega
theorem slips_ok {p : List uT1} (hp : GoodP p) {s : List UInt8} (hs : s.length ≤ 100) (h0 : planE p = 0) (h1 : (splitE p (43 :: s)).2 = 0) : uF55 p (43 :: s) = some (Lib.compact (srtS (allS p s)),0):=by
 obtain ⟨x,h2⟩:=split_prog hp (43 :: s) (by simp; omega);rw [if_pos h0,h1] at h2;have e1 : sub (43 :: s) 1 ((43 :: s).length : Int) = some s:=sub_drop (l:=43 :: s) (k:=1) (by simp);have hl:=allS_len p s hs;have hl2 : (srtS (allS p s)).length ≤ 1000000000:=by rw [srtS,List.length_mergeSort]; omega
 unfold uF55;rw [h2];have h3:=slips_list hp hs;simp only [Option.bind_some,bne_self_eq_false,cond_false,e1,h3,uF120,uF121,if_pos (show (allS p s).length ≤ 1000000000 by omega),if_pos hl2]
theorem slips_ref {p : List uT1} (hp : GoodP p) {s : List UInt8} (hs : s.length ≤ 100) (h0 : planE p = 0) : uF57b p (43 :: s) = some (Lib.compact (srtS (refS p s))):=by
 have hl:=refS_len p s hs;have hl2 : (srtS (refS p s)).length ≤ 1000000000:=by rw [srtS,List.length_mergeSort]; omega
 have hc : uF175 (refS p s) = some (refS p s):=by
  unfold uF175;have ha : app 16 ([] : List (List UInt8)) (refS p s) = some (refS p s):=by
   have:=app_of (b:=16) (l:=([] : List (List UInt8))) (m:=refS p s) (by simp; omega) (by simp; omega)
   simpa using this
  rw [ha];by_cases he : refS p s = []
  ·rw [he]; exact nilc_eq (fun _=>rfl) 
  ·exact nilc_eq (fun q=>absurd q he)
 unfold uF57b uF123;rw [ref_list hp (apart_of h0) hs];simp only [Option.bind_some,hc,uF120,uF121,if_pos (show (refS p s).length ≤ 1000000000 by omega),if_pos hl2]
theorem cmp_or2 (x y : Int) : uF41a [x,y] = some (if x = 0 then y else x):=by
 have h:=first_loop (step:=fun s : Int=>uF41 [x,y] s) [x,y] (fun i=>(i : Int)) (fun k=>if k = 0 then none else some k) () (fun i k hk=>by
  have hlt:=(List.getElem?_eq_some_iff.1 hk).1;have w1 : IntKind.wrap .i64 ((i : Int) + 1) = ((i + 1 : Nat) : Int):=by
   simp at hlt;rw [w64] <;> omega
  have hd : decide ((i : Int) < (([x,y] : List Int).length : Int)) = true:=decide_eq_true (by omega);show uF41 [x,y] _ = _;unfold uF41;rw [w1,hd];simp only [cond_true,idx_nat,hk,Option.bind_some];by_cases e : k = 0
  ·simp [e]
  ·have e' : (k != 0) = true:=by simpa using e
   rw [e',if_neg e]; rfl) (by
  show uF41 [x,y] _ = _;simp [uF41])
 unfold uF41a;simp only [Int.natCast_zero] at h;rw [h];by_cases hx : x = 0
 ·by_cases hy : y = 0
  ·simp [hx,hy,firstR,lret]
  ·simp [hx,hy,firstR,lret]
 ·simp [hx,firstR,lret]
theorem digits_fault {x : List UInt8} (h : x.length ≤ 1000) : uF43 x = some (if digB x 1 30 = true then 0 else 3):=by
 unfold uF43;rw [dig_is x 1 30 (by omega)];cases digB x 1 30 <;> rfl
theorem eq_list (l : List (List UInt8)) (hl : l.length ≤ 1000000) : uF50 l l = some true:=by
 have:=loop_for (N:=l.length) (step:=fun s : Int=>uF50a l l s) (fun k=>(k : Int)) (.inl ()) (fun k hk=>by
  simp (disch:=omega) [uF50a,hk,idx_at hk,w64]) (by simp [uF50a])
 simp only [Int.natCast_zero] at this;simp [uF50,this,lret]
theorem changed_is (s : uT0) (x : List UInt8) (k : Int) (hs : SOk s k) (hk : k ≤ 1000) (hx : x.length ≤ 500) : ∃ s' y,uF52 s x [49,50,51] = some (s',y) ∧ SOk s' (k + 3) ∧ y.length ≤ x.length + 7:=by
 unfold uF52;simp only [bnd];cases hxe : (x == []) with
 | true =>
  refine ⟨s,_,rfl,hs.up (by omega),by simp⟩
 | false =>
  have hx0 : 1 ≤ x.length:=by
   cases x with
   | nil=>simp at hxe
   | cons a x=>simp
  obtain ⟨i,e1,i1,i2⟩:=next_is s x.length k hs (by omega) (by omega) (by omega);obtain ⟨j,e2,j1,j2⟩:=next_is ⟨s.L,s.at_ + 1⟩ 3 (k + 1) hs.one (by omega) (by omega) (by omega);obtain ⟨w,e3,w1,w2⟩:=next_is ⟨s.L,s.at_ + 1 + 1⟩ 3 (k + 1 + 1) hs.one.one (by omega) (by omega) (by omega);obtain ⟨b,eb,hb⟩:=idx_of (l:=([49,50,51] : List UInt8)) j1 j2;have hr : (runeStr (IntKind.wrap .i32 (b.toNat : Int))).length ≤ 7:=by
   simp only [List.mem_cons,List.not_mem_nil,or_false] at hb;rcases hb with rfl | rfl | rfl <;> decide +kernel
  obtain ⟨u,hu⟩ : ∃ u,runeStr (IntKind.wrap .i32 (b.toNat : Int)) = u:=⟨_,rfl⟩;rw [hu] at hr;have hz : (([49,50,51] : List UInt8) == []) = false:=rfl;obtain ⟨n,rfl⟩:=Int.eq_ofNat_of_zero_le i1;have hn : n < x.length:=by omega
  have q1 : sub x 0 (n : Int) = some (x.take n):=sub_take (by omega);have q2 : sub x (n : Int) (x.length : Int) = some (x.drop n):=sub_drop (by omega);have q3 : sub x (IntKind.wrap .i64 ((n : Int) + 1)) (x.length : Int) = some (x.drop (n + 1)):=by
   rw [w64 (by omega) (by omega),show ((n : Int) + 1) = ((n + 1 : Nat) : Int) from by omega];exact sub_drop (by omega)
  have t1 : (x.take n).length = n:=by simp; omega
  have q4 : sadd (x.take n) u = some (x.take n ++ u):=sadd_of (by omega);have q5 : sadd (x.take n ++ u) (x.drop (n + 1)) = some (x.take n ++ u ++ x.drop (n + 1)):=sadd_of (by simp; omega);have q6 : sadd (x.take n ++ u) (x.drop n) = some (x.take n ++ u ++ x.drop n):=sadd_of (by simp; omega);have q7 : sadd (x.take n) (x.drop (n + 1)) = some (x.take n ++ x.drop (n + 1)):=sadd_of (by simp; omega);have e2' : uF63 ⟨s.L,s.at_ + 1⟩ ((([49,50,51] : List UInt8).length : Nat) : Int) = some (⟨s.L,s.at_ + 1 + 1⟩,j):=e2;have o3:=hs.one.one.one;simp only [hz,Bool.or_self,cond_false,e1,e2',eb,e3,hu,Option.bind_some,q1,q2,q3,q4,q5,q6,q7];cases w == 0
  ·simp only [cond_false]
   cases w == 1
   ·exact ⟨_,_,rfl,o3.up (by omega),by simp; omega⟩
   ·exact ⟨_,_,rfl,o3.up (by omega),by simp; omega⟩
  ·exact ⟨_,_,rfl,o3.up (by omega),by simp; omega⟩
theorem law_SlipsMade (l : List Int) (hl : l.length ≤ 4611686018427387904) : uF7 l = some true:=by
 obtain ⟨s1,p,e1,o1,hp⟩:=countries_is ⟨l,0⟩ 0 ⟨hl,by simp,by simp⟩ (by omega);obtain ⟨s2,n,e2,o2,hn⟩:=number_is s1 p _ o1 (by omega) hp;obtain ⟨a,e3,ma⟩:=some_in s2 ([([49] : List UInt8),([49,50] : List UInt8),([49,50,51] : List UInt8),([49,50,50,51] : List UInt8),([49,50,51,49] : List UInt8),([] : List UInt8),([120] : List UInt8)] : List (List UInt8)) _ o2 (by omega) (by simp) (by simp);have ha : a.length ≤ 10:=small_len (by decide) ma;obtain ⟨s4,b0,e4,o4,hb0⟩:=changed_is ⟨s2.L,s2.at_ + 1⟩ a _ o2.one (by omega) (by omega);obtain ⟨f,e5⟩:=flip_is s4 3 _ o4 (by omega) (by omega) (by omega);have hb : ∃ b,(bif f then ((uF51 ⟨s4.L,s4.at_ + 1⟩ (([([50,49] : List UInt8),([50,49,51] : List UInt8),([49,51,50] : List UInt8),a,([49,50] : List UInt8),([50,49,50,51] : List UInt8)] : List (List UInt8)))).bind fun y76=>some y76.2) else (some b0)) = some b ∧ b.length ≤ 20:=by
  cases f with
  | false=>exact ⟨b0,rfl,by omega⟩
  | true =>
   obtain ⟨b,e6,mb⟩:=some_in ⟨s4.L,s4.at_ + 1⟩ (([([50,49] : List UInt8),([50,49,51] : List UInt8),([49,51,50] : List UInt8),a,([49,50] : List UInt8),([50,49,50,51] : List UInt8)] : List (List UInt8))) _ o4.one (by omega) (by simp) (by simp);refine ⟨b,by simp only [cond_true,e6,Option.bind_some],?_⟩;simp only [List.mem_cons,List.not_mem_nil,or_false] at mb;rcases mb with rfl | rfl | rfl | rfl | rfl | rfl
   ·simp
   ·simp
   ·simp
   ·omega
   ·simp
   ·simp
 obtain ⟨b,e6,hb⟩:=hb;have hg:=hp.good;unfold uF7;simp only [e1,e2,e3,e4,e5,e6,Option.bind_some,slip_is (show a.length ≤ 1000 by omega) (show b.length ≤ 1000 by omega),digits_fault (show a.length ≤ 1000 by omega),digits_fault (show b.length ≤ 1000 by omega),cmp_or2,plan_fault hg];have hrest : ∀ y99,uF55 p n = some y99 → ((bif (planE p == ((0 : Int))) then ((uF37 p n).bind fun y178=>some y178.2) else (some (planE p))).bind fun y176=>bif (y176 != ((0 : Int))) then ((bif ((y99.2 == y176) && (((List.length y99.1 : Int)) == ((0 : Int)))) then ((uF35).bind fun y205=>some y205) else (some false)).bind fun y208=>some y208) else ((bif (y99.2 == ((0 : Int))) then ((uF57b p n).bind fun y220=>(uF50 y99.1 y220).bind fun y225=>some y225) else (some false)).bind fun y228=>(bif y228 then ((uF35).bind fun y237=>some y237) else (some false)).bind fun y240=>some y240)) = some true:=by
  intro y99 hy;by_cases h0 : planE p = 0
  ·rw [ref_split hg (apart_of h0) n (by omega),h0]
   simp only [beq_self_eq_true,cond_true,Option.bind_some];by_cases hx : (splitE p n).2 = 0
   ·have hf : formB n = true:=by
     cases hf : formB n with
     | true=>rfl
     | false =>
      unfold splitE at hx;rw [hf] at hx;simp at hx
    obtain ⟨s,rfl,hs1,hs2⟩:=form_at hf;rw [slips_ok hg (by omega) h0 hx] at hy;obtain rfl:=Option.some.inj hy;have hle : (Lib.compact (srtS (refS p s))).length ≤ 1000000:=by
     have h1:=refS_len p s (by omega);have h2 : (Lib.compact (srtS (refS p s))).length ≤ (srtS (refS p s)).length:=by
      unfold Lib.compact Lib.compactUpTo;rw [List.length_map];refine Nat.le_trans (List.length_filter_le _ _) ?_;simp
     rw [srtS,List.length_mergeSort] at h2;have h3 : Lib.compact (srtS (refS p s)) = Lib.compact ((refS p s).mergeSort fun x y=>decide (x ≤ y)):=rfl;rw [h3];omega
    simp only [hx,bne_self_eq_false,cond_false,beq_self_eq_true,cond_true,slips_ref hg (show s.length ≤ 100 by omega) h0,once_ext (same_mem p s),eq_list _ hle,Option.bind_some,uF35]
   ·have hne : ((splitE p n).2 != 0) = true:=by simpa using hx
    rw [slips_bad hg n (by omega) (e:=(splitE p n).2) (by rw [if_pos h0]) hx] at hy;obtain rfl:=Option.some.inj hy;simp only [hne,cond_true,beq_self_eq_true,List.length_nil,Int.natCast_zero,Bool.and_self,Option.bind_some,uF35]
  ·have h0' : (planE p == 0) = false:=by simpa using h0
   have hne : (planE p != 0) = true:=by simpa using h0
   rw [slips_bad hg n (by omega) (e:=planE p) (by rw [if_neg h0]) h0] at hy;obtain rfl:=Option.some.inj hy;simp only [h0',cond_false,hne,cond_true,beq_self_eq_true,List.length_nil,Int.natCast_zero,Bool.and_self,Option.bind_some,uF35]
 have hs : ∃ y,uF55 p n = some y:=by
  by_cases h0 : planE p = 0
  ·by_cases hx : (splitE p n).2 = 0
   ·have hf : formB n = true:=by
     cases hf : formB n with
     | true=>rfl
     | false =>
      unfold splitE at hx;rw [hf] at hx;simp at hx
    obtain ⟨s,rfl,hs1,hs2⟩:=form_at hf;exact ⟨_,slips_ok hg (by omega) h0 hx⟩
   ·exact ⟨_,slips_bad hg n (by omega) (e:=(splitE p n).2) (by rw [if_pos h0]) hx⟩
  ·exact ⟨_,slips_bad hg n (by omega) (e:=planE p) (by rw [if_neg h0]) h0⟩
 obtain ⟨y,hy⟩:=hs;have hr:=hrest y hy;rw [hy];simp only [Option.bind_some];cases da : digB a 1 30 with
 | false=>cases db : digB b 1 30 <;> simpa using hr
 | true =>
  cases db : digB b 1 30 with
  | false=>simpa using hr
  | true =>
   simp only [and_self,if_true,bne_self_eq_false,cond_false,beq_self_eq_true,cond_true,ref_slip (show a.length ≤ 1000 by omega) (dig_mem db),Option.bind_some];exact hr
end Go.Proofs.YtoclmbbfdokbhaaGreatDoor
