/-
  PresenceTells: what is drawn.
-/
import Derived.Test.YtnpbglnfnhejiaaGreatDoorHM5Aa
import Derived.Test.YtnpbglnfnhejiaaGreatDoorHM5Absc
namespace Go.Proofs.YtnpbglnfnhejiaaGreatDoor
open Go Go.Abs
set_option maxRecDepth 100000
set_option maxHeartbeats 1000000
theorem below_is (x n : Int) (h1 : 1 ≤ n) (h2 : n ≤ 4611686018427387904) : uF77 x n = some (x % n):=by
 have hn : ¬ n < 1:=by omega
 have hn0 : n ≠ 0:=by omega
 have hlt : x.tmod n < n:=Int.tmod_lt_of_pos _ (by omega);have hgt : -n < x.tmod n:=by
  have:=Int.tmod_lt_of_pos (-x) (b:=n) (by omega)
  rw [Int.neg_tmod] at this; omega
 rw [emod_tmod x n h1];by_cases h : x.tmod n < 0
 ·simp (disch:=omega) [uF77,hn,grem,hn0,h,bnd,w64]
 ·simp [uF77,hn,grem,hn0,h,bnd]
def SOk (s : uT1) (k : Int) : Prop:=s.L.length ≤ 4611686018427387904 ∧ 0 ≤ s.at_ ∧ s.at_ ≤ k
theorem next_is (s : uT1) (n k : Int) (hs : SOk s k) (hk : k ≤ 4611686018427387904) (h1 : 1 ≤ n) (h2 : n ≤ 4611686018427387904) :
  ∃ r,uF32 s n = some (⟨s.L,s.at_ + 1⟩,r) ∧ 0 ≤ r ∧ r < n:=by
 obtain ⟨hl,ha,hb⟩:=hs;have e1 : IntKind.wrap .i64 (s.at_ + 1) = s.at_ + 1:=w64 (by omega) (by omega);have hm : ∀ x : Int,0 ≤ x % n ∧ x % n < n:=fun x=>⟨Int.emod_nonneg _ (by omega),Int.emod_lt_of_pos _ (by omega)⟩;unfold uF32;rw [e1];by_cases h0 : s.L.length = 0
 ·have hz : (s.L.length : Int) = 0:=by omega
  simp [hz,below_is _ _ h1 h2];exact hm _
 ·have hz : ¬ ((s.L.length : Int) = 0):=by omega
  have e2 : IntKind.wrap .i64 (s.at_ + 1 - 1) = s.at_:=by rw [w64] <;> omega
  have hi : 0 ≤ s.at_.tmod s.L.length ∧ s.at_.tmod s.L.length < s.L.length:=⟨Int.tmod_nonneg _ ha,Int.tmod_lt_of_pos _ (by omega)⟩;obtain ⟨x,hx,_⟩:=idx_of hi.1 hi.2;rw [e2];have hne : s.L ≠ []:=by rintro q; simp [q] at h0
  have hb : ((s.L.length : Int) == 0) = false:=by simp [hne]
  simp [hb,hne,grem,gquo,hx,below_is _ _ h1 h2,below_is _ 1073741824 (by omega) (by omega)];exact hm _
theorem range_is (s : uT1) (lo hi k : Int) (hs : SOk s k) (hk : k ≤ 4611686018427387904) (h1 : lo ≤ hi) (h2 : -1000000000000 ≤ lo) (h3 : hi ≤ 1000000000000) :
  ∃ r,uF26 s lo hi = some (⟨s.L,s.at_ + 1⟩,r) ∧ lo ≤ r ∧ r ≤ hi:=by
 obtain ⟨r,e,r1,r2⟩:=next_is s (hi - lo + 1) k hs hk (by omega) (by omega);have hlt : ¬ hi < lo:=by omega
 refine ⟨lo + r,?_,by omega,by omega⟩;simp (disch:=omega) [uF26,hlt,w64,e,bnd]

theorem SOk.up {s : uT1} {k m : Int} (h : SOk s k) (e : k ≤ m) : SOk s m:=⟨h.1,h.2.1,Int.le_trans h.2.2 e⟩
theorem SOk.one {s : uT1} {k : Int} (h : SOk s k) : SOk ⟨s.L,s.at_ + 1⟩ (k + 1):=by
 obtain ⟨a,b,c⟩:=h;exact ⟨a,by (try simp only []); omega,by (try simp only []); omega⟩
theorem pick_in (s : uT1) (l : List Int) (k : Int) (hs : SOk s k) (hk : k ≤ 1000000) (hl : 0 < l.length) (hl2 : l.length ≤ 1000) : ∃ r,uF47 s l = some (⟨s.L,s.at_ + 1⟩,r) ∧ r ∈ l:=by
 obtain ⟨r,e,r1,r2⟩:=next_is s l.length k hs (by omega) (by omega) (by omega);obtain ⟨x,hx,hm⟩:=idx_of r1 r2;exact ⟨x,by simp [uF47,e,hx],hm⟩
theorem flip_is (s : uT1) (n k : Int) (hs : SOk s k) (hk : k ≤ 1000000) (h1 : 1 ≤ n) (h2 : n ≤ 1000) : ∃ b,uF33 s n = some (⟨s.L,s.at_ + 1⟩,b):=by
 obtain ⟨r,e,r1,r2⟩:=next_is s n k hs (by omega) (by omega) (by omega);exact ⟨r == 0,by simp [uF33,e,bnd]⟩

theorem some_in (s : uT1) (l : List (List UInt8)) (k : Int) (hs : SOk s k) (hk : k ≤ 1000000) (hl : 0 < l.length) (hl2 : l.length ≤ 1000) : ∃ r,uF6 s l = some (⟨s.L,s.at_ + 1⟩,r) ∧ r ∈ l:=by
 obtain ⟨r,e,r1,r2⟩:=next_is s l.length k hs (by omega) (by omega) (by omega);obtain ⟨x,hx,hm⟩:=idx_of r1 r2;exact ⟨x,by simp [uF6,e,hx,bnd],hm⟩
theorem odd_is (s : uT1) (lo hi k : Int) (hs : SOk s k) (hk : k ≤ 100000) (h1 : lo ≤ hi) (h2 : -1000000 ≤ lo) (h3 : hi ≤ 1000000) : ∃ s' r,uF48 s lo hi = some (s',r) ∧ SOk s' (k + 2) ∧ -2000000000000 ≤ r ∧ r ≤ 2000000000000:=by
 obtain ⟨b,e⟩:=flip_is s 12 k hs (by omega) (by omega) (by omega);unfold uF48;rw [e];simp only [Option.bind_some];cases b
 ·obtain ⟨r,e2,r1,r2⟩:=range_is ⟨s.L,s.at_ + 1⟩ lo hi (k + 1) hs.one (by omega) h1 (by omega) (by omega)
  refine ⟨⟨s.L,s.at_ + 1 + 1⟩,r,by simp only [cond_false,e2,Option.bind_some],by have:=hs.one.one; rwa [show k + 1 + 1 = k + 2 from by omega] at this,by omega,by omega⟩
 ·obtain ⟨r,e2,hr⟩:=pick_in ⟨s.L,s.at_ + 1⟩ [(IntKind.wrap .i64 (lo - 1)),(IntKind.wrap .i64 (hi + 1)),lo,hi,-1099511627776,1099511627776] (k + 1) hs.one (by omega) (by simp) (by simp)
  refine ⟨⟨s.L,s.at_ + 1 + 1⟩,r,by simp only [cond_true,e2,Option.bind_some],by have:=hs.one.one; rwa [show k + 1 + 1 = k + 2 from by omega] at this,?_⟩;rw [w64 (by omega) (by omega),w64 (by omega) (by omega)] at hr;simp only [List.mem_cons,List.not_mem_nil,or_false] at hr;rcases hr with rfl | rfl | rfl | rfl | rfl | rfl <;> omega
def firstR {T E : Type} (o : Option E) (z : T) : T ⊕ E:=match o with
  | some r=>.inr r
  | none=>.inl z
theorem first_loop {α S E T : Type} {step : S → Option (S ⊕ (T ⊕ E))} (l : List α) (enc : Nat → S) (g : α → Option E) (z : T)
  (h : ∀ (i : Nat) (a : α),l[i]? = some a → step (enc i) = some (match g a with | some r=>.inr (.inr r) | none=>.inl (enc (i + 1)))) (hend : step (enc l.length) = some (.inr (.inl z))) :
  loopO step (enc 0) = some (firstR (l.findSome? g) z):=by
 have key : ∀ (m : List α) (i : Nat),foldE (fun _ a (_ : Unit)=>some (match g a with | some r=>(.inr (.inr r) : Unit ⊕ (T ⊕ E)) | none=>.inl ())) (fun _=>(.inl z : T ⊕ E)) i m () = some (firstR (m.findSome? g) z):=by
  intro m;induction m with
  | nil=>intro i; rfl
  | cons a m ih =>
   intro i;simp only [foldE,List.findSome?_cons];cases g a with
   | none=>exact ih (i + 1)
   | some r=>rfl
 have:=loop_list (step:=step) l (fun i (_ : Unit)=>enc i) (fun _ a _=>some (match g a with | some r=>(.inr (.inr r) : Unit ⊕ (T ⊕ E)) | none=>.inl ())) (fun _=>.inl z) (fun i a s hi=>by
  rw [h i a hi];cases g a <;> rfl) (fun s=>hend) ()
 rw [← key l 0]; exact this
/-! Sorting. -/
theorem mem_swap {α : Type} {l m : List α} {i j : Nat} {x y : α} (h : ∀ a ∈ l,a ∈ m) (hx : x ∈ l) (hy : y ∈ l) : ∀ a ∈ (l.set i x).set j y,a ∈ m:=by
 intro a ha;rcases List.mem_or_eq_of_mem_set ha with ha | rfl
 ·rcases List.mem_or_eq_of_mem_set ha with ha | rfl
  ·exact h a ha
  ·exact h a hx
 ·exact h a hy
theorem ins1_is (c : uT0 → uT0 → Option Int) (hc : ∀ a b,∃ n,c a b = some n) (m : List uT0) (l : List uT0) (j : Int) (hj : 0 ≤ j ∧ j < l.length) (hl : l.length ≤ 1000) (hm : ∀ a ∈ l,a ∈ m) :
  ∃ r,loopO (fun s : List uT0 × Int=>uF198a 0 c s.1 s.2) (l,j) = some r ∧ r.length = l.length ∧ ∀ a ∈ r,a ∈ m:=by
 refine loopO_ind (step:=fun s : List uT0 × Int=>uF198a 0 c s.1 s.2) (fun q=>0 ≤ q.2 ∧ q.2 < l.length ∧ q.1.length = l.length ∧ ∀ a ∈ q.1,a ∈ m) (fun r=>r.length = l.length ∧ ∀ a ∈ r,a ∈ m) (fun q=>q.2.toNat) (fun q hq=>?_) (l,j) ⟨hj.1,hj.2,rfl,hm⟩;obtain ⟨q,k⟩:=q;obtain ⟨k0,k1,k2,k3⟩:=hq;simp only [] at k0 k1 k2 k3;simp only [uF198a];by_cases h : k > 0
 ·have hk : k < q.length:=by omega
  obtain ⟨x,hx,mx⟩:=idx_of (l:=q) k0 hk;obtain ⟨y,hy,my⟩:=idx_of (l:=q) (n:=k - 1) (by omega) (by omega);have w : IntKind.wrap .i64 (k - 1) = k - 1:=w64 (by omega) (by omega);obtain ⟨n,hn⟩:=hc x y;simp only [h,decide_true,cond_true,hx,hy,w,hn,Option.bind_some,bnd];cases hd : decide (n < 0) with
  | false=>exact .inl ⟨q,by simp,k2,k3⟩
  | true =>
   obtain ⟨z,hz,_⟩:=idx_of (l:=q.set k.toNat y) (n:=k - 1) (by omega) (by simp; omega);simp only [cond_true,hz,Option.bind_some];exact .inr ⟨_,rfl,⟨by (try simp only []); omega,by (try simp only []); omega,by simp [k2],mem_swap k3 my mx⟩,by (try simp only []); omega⟩
 ·have hd : decide (k > 0) = false:=by simpa using h
  simp only [hd,cond_false,Option.bind_some];exact .inl ⟨q,rfl,k2,k3⟩
theorem ins_is (c : uT0 → uT0 → Option Int) (hc : ∀ a b,∃ n,c a b = some n) (l : List uT0) (hl : l.length ≤ 1000) :
  ∃ r,uF198 l 0 (l.length : Int) c = some r ∧ r.length = l.length ∧ ∀ a ∈ r,a ∈ l:=by
 obtain ⟨r,h1,h2⟩:=loopO_ind (step:=fun s : List uT0 × Int=>uF198b 0 (l.length : Int) c s.1 s.2) (fun q=>0 ≤ q.2 ∧ q.1.length = l.length ∧ ∀ a ∈ q.1,a ∈ l) (fun r=>r.length = l.length ∧ ∀ a ∈ r,a ∈ l) (fun q=>(l.length - q.2).toNat) (fun q hq=>by
  obtain ⟨q,k⟩:=q;obtain ⟨k0,k2,k3⟩:=hq;simp only [] at k0 k2 k3;simp only [uF198b];by_cases h : k < (l.length : Int)
  ·obtain ⟨r,h1,h2,h3⟩:=ins1_is c hc l q k ⟨k0,by omega⟩ (by omega) k3
   simp only [h,decide_true,cond_true,h1,Option.bind_some,bnd];rw [w64 (by omega) (by omega)];exact .inr ⟨_,rfl,⟨by (try simp only []); omega,by (try simp only []); omega,h3⟩,by (try simp only []); omega⟩
  ·exact .inl ⟨q,by simp [h],k2,k3⟩) (l,1) ⟨by simp,rfl,fun _ h=>h⟩
 refine ⟨r,?_,h2⟩;simp only [uF198,bnd];rw [show IntKind.wrap .i64 (0 + 1) = 1 from rfl,h1]; rfl
theorem sort_is (c : uT0 → uT0 → Option Int) (hc : ∀ a b,∃ n,c a b = some n) (l : List uT0) (hl : l.length ≤ 12) :
  ∃ r,uF110 l c = some r ∧ r.length = l.length ∧ ∀ a ∈ r,a ∈ l:=by
 obtain ⟨r,h1,h2⟩:=ins_is c hc l (by omega);refine ⟨r,?_,h2⟩;have d1 : decide ((20 : Int) ≤ (l.length : Int)) = false:=by simp; omega
 have d2 : decide ((20 : Int) < (l.length : Int)) = false:=by simp; omega
 have e1 : loopO (fun s : List uT0 × Int × Int=>uF151 (l.length : Int) c s.1 s.2.1 s.2.2) (l,0,20) = some (l,0):=by
  rw [loopO_eq]; simp only [uF151,d1,cond_false]
 have e2 : loopO (fun s : Int=>uF151a (l.length : Int) s) 20 = some ():=by
  rw [loopO_eq]; simp only [uF151a,d2,cond_false]
 simp only [uF110,uF151b,e1,Option.bind_some,h1,e2]
/-! The order of beacons. -/
def cmpS (x y : List UInt8) : Int:=if Op.bytesLess x y then -1 else if !(Op.bytesLess x y || x == y) then 1 else 0
theorem cmps_is (x y : List UInt8) : uF60 x y = some (cmpS x y):=by
 unfold uF60 uF104 cmpS;simp only [beq_self_eq_true,Bool.not_true,bnd,Option.bind_some,cond_false];cases Op.bytesLess x y
 ·cases (x == y) <;> rfl
 ·rfl
def or2 (x y : Int) : Int:=if x = 0 then y else x
theorem comp2_is (a b c d : List UInt8) : uF45a [a,b] [c,d] = some (or2 (cmpS a c) (cmpS b d)):=by
 have h:=first_loop (step:=fun s : Int=>uF45 [a,b] [c,d] s) [(a,c),(b,d)] (fun i=>(i : Int)) (fun p=>if cmpS p.1 p.2 = 0 then none else some (cmpS p.1 p.2)) () (fun i p hp=>by
  have hlt:=(List.getElem?_eq_some_iff.1 hp).1;have w1 : IntKind.wrap .i64 ((i : Int) + 1) = ((i + 1 : Nat) : Int):=by
   simp at hlt;rw [w64] <;> omega
  have e1 : idx [a,b] (i : Int) = some p.1 ∧ idx [c,d] (i : Int) = some p.2:=by
   match i,hp with
   | 0,hp=>obtain rfl:=Option.some.inj hp; exact ⟨rfl,rfl⟩
   | 1,hp=>obtain rfl:=Option.some.inj hp; exact ⟨rfl,rfl⟩
   | i + 2,hp=>simp at hp
  have hd : decide ((i : Int) < (([a,b] : List (List UInt8)).length : Int)) = true:=decide_eq_true (by simp at hlt ⊢; omega);have hd2 : decide ((i : Int) ≥ (([c,d] : List (List UInt8)).length : Int)) = false:=decide_eq_false (by simp at hlt ⊢; omega);show uF45 [a,b] [c,d] _ = _;unfold uF45;rw [hd,hd2,w1];simp only [cond_true,cond_false,e1.1,e1.2,Option.bind_some,cmps_is];by_cases e : cmpS p.1 p.2 = 0
  ·simp [e]
  ·have e' : (cmpS p.1 p.2 != 0) = true:=by simpa using e
   rw [e',if_neg e]; rfl) (by
  show uF45 [a,b] [c,d] _ = _;simp [uF45])
 unfold uF45a;simp only [Int.natCast_zero] at h;rw [h];unfold or2;by_cases hx : cmpS a c = 0
 ·by_cases hy : cmpS b d = 0
  ·simp [hx,hy,firstR,lret]
  ·simp [hx,hy,firstR,lret]
 ·simp [hx,firstR,lret]
def sgn (n : Int) : Int:=if n < 0 then -1 else if n > 0 then 1 else 0
def ordB (a b : uT0) : Int:=or2 (or2 (cmpS a.Person b.Person) (cmpS a.Device b.Device)) (sgn (IntKind.wrap .i64 (a.At - b.At)))
theorem order_is (a b : uT0) : uF111 a b = some (ordB a b):=by
 unfold uF111 ordB;rw [comp2_is];simp only [Option.bind_some];generalize or2 (cmpS a.Person b.Person) (cmpS a.Device b.Device) = x;by_cases hx : x = 0
 ·subst hx
  simp only [bne_self_eq_false,cond_false,or2,if_true,uF152,bnd,sgn];generalize IntKind.wrap .i64 (a.At - b.At) = n;by_cases h1 : n < 0
  ·simp [h1]
  ·by_cases h2 : n > 0
   ·simp [h1,h2]
   ·simp [h1,h2]
 ·have hx' : (x != 0) = true:=by simpa using hx
  rw [hx',or2,if_neg hx]; rfl
theorem or3_is (x y z : Int) : uF53a [x,y,z] = some (or2 (or2 x y) z):=by
 have h:=first_loop (step:=fun s : Int=>uF53 [x,y,z] s) [x,y,z] (fun i=>(i : Int)) (fun k=>if k = 0 then none else some k) () (fun i k hk=>by
  have hlt:=(List.getElem?_eq_some_iff.1 hk).1;have w1 : IntKind.wrap .i64 ((i : Int) + 1) = ((i + 1 : Nat) : Int):=by
   simp at hlt;rw [w64] <;> omega
  have hd : decide ((i : Int) < (([x,y,z] : List Int).length : Int)) = true:=decide_eq_true (by omega);show uF53 [x,y,z] _ = _;unfold uF53;rw [w1,hd];simp only [cond_true,idx_nat,hk,Option.bind_some];by_cases e : k = 0
  ·simp [e]
  ·have e' : (k != 0) = true:=by simpa using e
   rw [e',if_neg e]; rfl) (by
  show uF53 [x,y,z] _ = _;simp [uF53])
 unfold uF53a;simp only [Int.natCast_zero] at h;rw [h];unfold or2;by_cases hx : x = 0
 ·by_cases hy : y = 0
  ·by_cases hz : z = 0
   ·simp [hx,hy,hz,firstR,lret]
   ·simp [hx,hy,hz,firstR,lret]
  ·simp [hx,hy,firstR,lret]
 ·simp [hx,firstR,lret]
theorem or2_is (x y : Int) : uF53a [x,y] = some (or2 x y):=by
 have h:=first_loop (step:=fun s : Int=>uF53 [x,y] s) [x,y] (fun i=>(i : Int)) (fun k=>if k = 0 then none else some k) () (fun i k hk=>by
  have hlt:=(List.getElem?_eq_some_iff.1 hk).1;have w1 : IntKind.wrap .i64 ((i : Int) + 1) = ((i + 1 : Nat) : Int):=by
   simp at hlt;rw [w64] <;> omega
  have hd : decide ((i : Int) < (([x,y] : List Int).length : Int)) = true:=decide_eq_true (by omega);show uF53 [x,y] _ = _;unfold uF53;rw [w1,hd];simp only [cond_true,idx_nat,hk,Option.bind_some];by_cases e : k = 0
  ·simp [e]
  ·have e' : (k != 0) = true:=by simpa using e
   rw [e',if_neg e]; rfl) (by
  show uF53 [x,y] _ = _;simp [uF53])
 unfold uF53a;simp only [Int.natCast_zero] at h;rw [h];unfold or2;by_cases hx : x = 0
 ·by_cases hy : y = 0
  ·simp [hx,hy,firstR,lret]
  ·simp [hx,hy,firstR,lret]
 ·simp [hx,firstR,lret]
theorem cmpi_is (x y : Int) : uF55 x y = some (if x < y then -1 else if x > y then 1 else 0):=by
 unfold uF55 uF101;simp only [bnd,bne_self_eq_false,Option.bind_some,cond_false];by_cases h : x < y
 ·simp [h]
 ·by_cases h2 : x > y
  ·simp [h,h2]
  ·simp [h,h2]
def pers : List (List UInt8):=[[97,110,110],[98,111,98],[]]
def devs : List (List UInt8):=[[100,101,115,107],[112,104,111,110,101]]
def notes : List (List UInt8):=[[],[98,97,99,107,32,97,116,32,51],[32,120],[97,32,32,98],[10],List.replicate 101 110]
def BInv (b : uT0) : Prop:=b.Person ∈ pers ∧ b.Device ∈ devs ∧ b.Note ∈ notes ∧ 0 ≤ b.At ∧ b.At ≤ 40
theorem same_order {a b : uT0} (ha : BInv a) (hb : BInv b) : uF120 a b = some (ordB a b):=by
 have hp : ∀ x ∈ pers,∀ y ∈ pers,Lib.compareBytes x y = cmpS x y:=by decide
 have hd : ∀ x ∈ devs,∀ y ∈ devs,Lib.compareBytes x y = cmpS x y:=by decide
 obtain ⟨a1,a2,_,a3,a4⟩:=ha;obtain ⟨b1,b2,_,b3,b4⟩:=hb;have w : IntKind.wrap .i64 (a.At - b.At) = a.At - b.At:=w64 (by omega) (by omega);unfold uF120;have c1 : uF54 a.Person b.Person = some (cmpS a.Person b.Person):=congrArg some (hp _ a1 _ b1);have c2 : uF54 a.Device b.Device = some (cmpS a.Device b.Device):=congrArg some (hd _ a2 _ b2);simp only [c1,c2,cmpi_is,or3_is,Option.bind_some,ordB,w];congr 2;unfold sgn;by_cases h1 : a.At < b.At
 ·rw [if_pos h1,if_pos (by omega)]
 ·by_cases h2 : a.At > b.At
  ·rw [if_neg h1,if_pos h2,if_neg (by omega),if_pos (by omega)]
  ·rw [if_neg h1,if_neg h2,if_neg (by omega),if_neg (by omega)]
theorem foldE_all {α R : Type} (p : α → Bool) (r : R) : ∀ (l : List α) (i : Nat),foldE (S:=Unit) (E:=Unit ⊕ R) (fun _ a _=>some (if p a = true then .inl () else .inr (.inr r))) (fun _=>.inl ()) i l () = some (if l.all p = true then .inl () else .inr r)
 | [],_=>by simp [foldE]
 | a :: l,i=>by
  by_cases h : p a = true
  ·simp only [foldE,List.all_cons,h,if_true,Bool.true_and]; exact foldE_all p r l (i + 1)
  ·simp [foldE,List.all_cons,h]
def onlyB (s c : List UInt8) : Bool:=s.all fun x=>decide (Lib.indexByte c x ≥ 0)
theorem only_is (s c : List UInt8) (hs : s.length ≤ 1000) : uF153 s c = some (onlyB s c):=by
 have h:=loop_list (step:=fun w : Int=>uF153a s c w) s (fun i (_ : Unit)=>(i : Int)) (fun _ a _=>some (if decide (Lib.indexByte c a ≥ 0) = true then .inl () else .inr (.inr false))) (fun _=>.inl ()) (fun i a st hi=>by
  have hlt:=(List.getElem?_eq_some_iff.1 hi).1;have hd : decide ((i : Int) < (List.length s : Int)) = true:=by simpa using hlt
  have ha : a.toNat.toUInt8 = a:=by simp
  simp only [uF153a,hd,cond_true,idx_nat,hi,Option.bind_some,uF99,uF143,uF188,Int.toNat_natCast,ha];rw [w64 (by omega) (by omega)];by_cases hx : Lib.indexByte c a < 0
  ·have h2 : ¬ (Lib.indexByte c a ≥ 0):=by omega
   simp [hx,h2]
  ·have h2 : Lib.indexByte c a ≥ 0:=by omega
   simp [hx,h2]) (fun st=>by simp [uF153a]) ()
 rw [foldE_all] at h;have h1 : loopO (fun w : Int=>uF153a s c w) 0 = some (if onlyB s c = true then .inl () else .inr false):=h;simp only [uF153,h1];cases onlyB s c <;> rfl
noncomputable def onlyO (s c : List UInt8) : Option Bool:=if s.length ≤ 1000 then some (onlyB s c) else uF153 s c
theorem only_eq (s c : List UInt8) : uF153 s c = onlyO s c:=by
 unfold onlyO;split
 ·next h=>exact only_is s c h
 ·rfl
noncomputable def keyO (x0 : List UInt8) : Option (Bool):=(uF115 ((List.length x0 : Int)) ((1 : Int)) ((40 : Int))).bind fun y1=>(bif y1 then ((sub x0 0 ((1 : Int))).bind fun y9=>(onlyO y9 (([97,98,99,100,101,102,103,104,105,106,107,108,109,110,111,112,113,114,115,116,117,118,119,120,121,122] : List UInt8))).bind fun y11=>some y11) else (some false)).bind fun y14=>(bif y14 then ((onlyO x0 (([97,98,99,100,101,102,103,104,105,106,107,108,109,110,111,112,113,114,115,116,117,118,119,120,121,122,48,49,50,51,52,53,54,55,56,57,45,95] : List UInt8))).bind fun y25=>some y25) else (some false)).bind fun y28=>some y28

theorem key_eq (s : List UInt8) : uF114 s = keyO s:=by
 simp only [uF114,keyO,only_eq]
theorem keys_all : (pers ++ devs).all (fun s=>(keyO s).isSome && (uF57 s == keyO s)) = true:=by kernel_rfl
theorem id_key {s : List UInt8} (h : s ∈ pers ++ devs) : ∃ b,uF114 s = some b ∧ uF57 s = some b:=by
 have:=List.all_eq_true.1 keys_all s h
 rw [Bool.and_eq_true,beq_iff_eq] at this;obtain ⟨b,e⟩:=Option.isSome_iff_exists.1 this.1;exact ⟨b,by rw [key_eq,e],by rw [this.2,e]⟩
def ctl (b : UInt8) : Bool:=decide ((b.toNat : Int) < 32) || ((b.toNat : Int) == 127)
def ctlB (s : List UInt8) : Bool:=s.any ctl
noncomputable def plainO (x0 : List UInt8) : Option (Bool):=(uF154 x0).bind fun y1=>(bif y1 then ((some (ctlB x0)).bind fun y9=>some (!y9)) else (some false)).bind fun y12=>(bif y12 then ((uF41 x0 (([32] : List UInt8))).bind fun y23=>some ((y23 == x0))) else (some false)).bind fun y26=>(bif y26 then ((uF157 x0 (([32,32] : List UInt8))).bind fun y37=>some (!y37)) else (some false)).bind fun y40=>some y40
noncomputable def isPlainO (x0 : List UInt8) : Option (Bool):=(uF154 x0).bind fun y1=>(bif (!y1) then (some true) else ((uF38 x0 (([32] : List UInt8))).bind fun y9=>some y9)).bind fun y12=>(bif y12 then (some true) else ((uF158 x0 (([32] : List UInt8))).bind fun y23=>some y23)).bind fun y26=>(bif y26 then (some true) else ((uF157 x0 (([32,32] : List UInt8))).bind fun y37=>some y37)).bind fun y40=>bif y40 then (some false) else (some (!ctlB x0))
theorem next_ascii {s : List UInt8} {k : Nat} (hk : k < s.length) (h : s[k].toNat < 128) : utf8Next s k = (s[k].toNat,1):=by
 unfold utf8Next Utf8.decode;have e : (ByteArray.get! ⟨s.toArray⟩ (k + 0)).toNat = s[k].toNat:=by
  show (s.toArray[k + 0]!).toNat = _;simp [hk]
 simp only [e];rw [if_pos (by omega)]
theorem cf_is (s : List UInt8) (hs : s.length ≤ 1000) (ha : ∀ b ∈ s,b.toNat < 128) : uF155 s (fun a0=>uF156 a0) = some (ctlB s):=by
 have h:=first_loop (step:=fun w : It=>uF230 (fun a0=>uF156 a0) true w) (List.range s.length) (fun i=>((s,i) : It)) (fun i=>if ctl (s.getD i 0) = true then some (i : Int) else none) () (fun i j hj=>by
  obtain ⟨h1,h2⟩:=List.getElem?_eq_some_iff.1 hj;simp only [List.length_range,List.getElem_range] at h1 h2;subst h2;have hn:=next_ascii h1 (ha _ (List.getElem_mem h1));have hg : s.getD i 0 = s[i]:=by simp [List.getD,h1]
  have hm : itMore ((s,i) : It) = true:=decide_eq_true h1;have hx : itNext ((s,i) : It) = (s,i + 1):=by
   show (if i < s.length then (s,i + (utf8Next s i).2) else (s,i)) = _;rw [if_pos h1,hn]
  have hr : itRune ((s,i) : It) = (s[i].toNat : Int):=by
   show (((utf8Next s i).1 : Nat) : Int) = _;rw [hn]
  show uF230 _ true (s,i) = _;unfold uF230;simp only [bnd,hm,hx,hr,cond_true,uF156,Option.bind_some,hg];have hc : (decide ((s[i].toNat : Int) < 32) || ((s[i].toNat : Int) == 127)) = ctl s[i]:=rfl;rw [hc];cases ctl s[i]
  ·rfl
  ·rfl) (by
  have hm : itMore ((s,(List.range s.length).length) : It) = false:=by
   simp only [List.length_range];exact decide_eq_false (Nat.lt_irrefl _)
  show uF230 _ true (s,(List.range s.length).length) = _;unfold uF230;simp only [bnd,hm,cond_false])
 unfold uF155 uF201 uF230a;rw [h];cases hf : (List.range s.length).findSome? (fun i=>if ctl (s.getD i 0) = true then some (i : Int) else none) with
 | none =>
  rw [List.findSome?_eq_none_iff] at hf;have : ctlB s = false:=by
   unfold ctlB;rw [List.any_eq_false];intro x hx;obtain ⟨i,hi,rfl⟩:=List.getElem_of_mem hx
   have:=hf i (by simpa using hi)
   have hg : s.getD i 0 = s[i]:=by simp [List.getD,hi]
   rw [hg] at this;intro q;rw [if_pos q] at this;simp at this
  rw [this]; rfl
 | some r =>
  obtain ⟨i,h1,h2⟩:=List.exists_of_findSome?_eq_some hf;have hi : i < s.length:=by simpa using h1
  have hg : s.getD i 0 = s[i]:=by simp [List.getD,hi]
  rw [hg] at h2;have hc : ctl s[i] = true:=by
   cases hq : ctl s[i] with
   | true=>rfl
   | false=>rw [hq] at h2; simp at h2
  rw [if_pos hc] at h2;have : ctlB s = true:=List.any_eq_true.2 ⟨s[i],List.getElem_mem hi,hc⟩;rw [this];obtain rfl:=Option.some.inj h2;simp only [firstR,lret,Option.bind_some,bnd];congr 1
theorem ip_is (s : List UInt8) (hs : s.length ≤ 1000) : lret (loopO (fun w : Int=>uF119 s w) ((0 : Int))) (fun _=>some true) (fun r=>some r) = some (!ctlB s):=by
 have h:=loop_list (step:=fun w : Int=>uF119 s w) s (fun i (_ : Unit)=>(i : Int)) (fun _ a _=>some (if (!ctl a) = true then .inl () else .inr (.inr false))) (fun _=>.inl ()) (fun i a st hi=>by
  have hlt:=(List.getElem?_eq_some_iff.1 hi).1;have hd : decide ((i : Int) < (List.length s : Int)) = true:=by simpa using hlt
  simp only [uF119,hd,cond_true,idx_nat,hi,Option.bind_some];rw [w64 (by omega) (by omega)];unfold ctl;cases decide ((a.toNat : Int) < 32)
  ·cases ((a.toNat : Int) == 127) <;> rfl
  ·rfl) (fun st=>by simp [uF119]) ()
 rw [foldE_all (fun a=>!ctl a)] at h;have h1 : loopO (fun w : Int=>uF119 s w) 0 = some (if (s.all fun a=>!ctl a) = true then .inl () else .inr false):=h;rw [h1];have h2 : (s.all fun a=>!ctl a) = !ctlB s:=by
  unfold ctlB;rw [List.all_eq_not_any_not];simp
 rw [h2];cases ctlB s <;> rfl
theorem notes_all : notes.all (fun s=>decide (s.length ≤ 1000) && s.all (fun b=>decide (b.toNat < 128)) && (plainO s).isSome && (isPlainO s == plainO s)) = true:=by kernel_rfl
theorem note_plain {s : List UInt8} (h : s ∈ notes) : s.length ≤ 1000 ∧ ∃ b,uF117 s = some b ∧ uF119a s = some b:=by
 have:=List.all_eq_true.1 notes_all s h
 simp only [Bool.and_eq_true,decide_eq_true_eq,beq_iff_eq] at this;obtain ⟨⟨⟨h1,h2⟩,h3⟩,h4⟩:=this;obtain ⟨b,e⟩:=Option.isSome_iff_exists.1 h3;have hc:=cf_is s h1 (fun b hb=>by simpa using List.all_eq_true.1 h2 b hb);refine ⟨h1,b,?_,?_⟩
 ·unfold uF117
  rw [hc];exact e
 ·unfold uF119a
  rw [ip_is s h1];exact h4.trans e
theorem faults {l : List uT0} (hl : l.length ≤ 100) (hb : ∀ b ∈ l,BInv b) (w : Int) : uF67a l w = uF66 l w ∧ (0 ≤ w → w < l.length → uF66 l w = some (.inl (w + 1)) ∨ ∃ e,uF66 l w = some (.inr (.inr e))):=by
 by_cases hlt : w < (l.length : Int)
 ·have hd : decide (w < (l.length : Int)) = true:=decide_eq_true hlt
  by_cases h0 : 0 ≤ w
  ·obtain ⟨b,e1,m1⟩:=idx_of h0 hlt
   obtain ⟨p1,p2,p3,p4,p5⟩:=hb b m1;obtain ⟨kp,a1,a2⟩:=id_key (List.mem_append_left devs p1);obtain ⟨kd,a3,a4⟩:=id_key (List.mem_append_right pers p2);obtain ⟨hn,pl,a5,a6⟩:=note_plain p3;have w1 : IntKind.wrap .i64 (w + 1) = w + 1:=w64 (by omega) (by omega);have w2 : IntKind.wrap .i64 (w - 1) = w - 1:=w64 (by omega) (by omega);have hprev : w > 0 → ∃ q n,idx l (w - 1) = some q ∧ uF111 q b = some n ∧ uF120 q b = some n:=fun hw=>by
    obtain ⟨q,e2,m2⟩:=idx_of (l:=l) (n:=w - 1) (by omega) (by omega);exact ⟨q,ordB q b,e2,order_is q b,same_order (hb q m2) ⟨p1,p2,p3,p4,p5⟩⟩
   have hm : (decide (b.At ≥ (0 : Int)) && decide (b.At < (345686400000 : Int))) = (decide ((0 : Int) ≤ b.At) && decide (b.At ≤ (345686399999 : Int))):=by
    congr 1;by_cases h : b.At < 345686400000
    ·rw [decide_eq_true h,decide_eq_true (by omega)]
    ·rw [decide_eq_false h,decide_eq_false (by omega)]
   unfold uF67a uF66;simp only [hd,cond_true,e1,a1,a2,a3,a4,a5,a6,Option.bind_some,uF118,uF115,uF59,uF116,bnd,ge_iff_le,w1,w2];simp only [ge_iff_le] at hm;rw [hm];have hord : ∃ o,(bif (decide (w > ((0 : Int)))) then ((idx l (w - 1)).bind fun y137=>(uF111 y137 b).bind fun y143=>some ((decide ((0 : Int) ≤ y143)))) else (some false)) = some o ∧ (bif (decide (w > ((0 : Int)))) then ((idx l (w - 1)).bind fun y137=>(uF120 y137 b).bind fun y143=>some ((decide ((0 : Int) ≤ y143)))) else (some false)) = some o:=by
    by_cases hw : w > 0
    ·obtain ⟨q,n,q1,q2,q3⟩:=hprev hw
     exact ⟨decide (0 ≤ n),by simp [hw,q1,q2],by simp [hw,q1,q3]⟩
    ·exact ⟨false,by simp [hw],by simp [hw]⟩
   obtain ⟨o,o1,o2⟩:=hord;rw [o1,o2];generalize (decide ((0 : Int) ≤ b.State) && decide (b.State ≤ (4 : Int))) = c1;generalize (decide ((0 : Int) ≤ b.At) && decide (b.At ≤ (345686399999 : Int))) = c2;generalize (decide (b.At ≤ b.Until) && decide (b.Until ≤ (345686400000 : Int))) = c3;generalize decide (((List.length b.Note : Int)) > ((100 : Int))) = c4;refine ⟨?_,fun _ _=>?_⟩
   ·cases kp <;> cases kd <;> cases c1 <;> cases c2 <;> cases c3 <;> cases pl <;> cases c4 <;> cases o <;> rfl
   ·cases kp <;> cases kd <;> cases c1 <;> cases c2 <;> cases c3 <;> cases pl <;> cases c4 <;> cases o <;> first | exact .inl rfl | exact .inr ⟨_,rfl⟩
  ·have he : idx l w = none:=by simp [idx,h0]
   refine ⟨?_,fun h=>absurd h h0⟩;unfold uF67a uF66;simp only [hd,cond_true,he,Option.bind_none]
 ·have hd : decide (w < (l.length : Int)) = false:=decide_eq_false hlt
  refine ⟨?_,fun _ h=>absurd h hlt⟩;unfold uF67a uF66;rw [hd]; rfl
theorem check_same {l : List uT0} (hl : l.length ≤ 100) (hb : ∀ b ∈ l,BInv b) : uF67 l = uF66a l:=by
 unfold uF67 uF66a;have : (fun s : Int=>uF67a l s) = fun s : Int=>uF66 l s:=funext fun w=>(faults hl hb w).1;rw [this]
theorem fault_some {l : List uT0} (hl : l.length ≤ 100) (hb : ∀ b ∈ l,BInv b) : ∃ e,uF66a l = some e:=by
 obtain ⟨r,h1,_⟩:=loopO_ind (step:=fun s : Int=>uF66 l s) (fun w=>0 ≤ w ∧ w ≤ l.length) (fun _=>True) (fun w=>(l.length - w).toNat) (fun w hw=>by
  by_cases hlt : w < (l.length : Int)
  ·rcases (faults hl hb w).2 hw.1 hlt with h | ⟨e,h⟩
   ·exact .inr ⟨w + 1,h,⟨by omega,by omega⟩,by omega⟩
   ·exact .inl ⟨_,h,trivial⟩
  ·refine .inl ⟨.inl (),?_,trivial⟩
   unfold uF66;rw [decide_eq_false hlt]; rfl) 0 ⟨by omega,by omega⟩
 unfold uF66a;have hd : decide (((List.length l : Int)) > ((1000 : Int))) = false:=decide_eq_false (by omega);rw [hd,h1];cases r with
 | inl u=>exact ⟨0,rfl⟩
 | inr e=>exact ⟨e,rfl⟩
/-! Equal neighbours are left out. -/
theorem compf_is (c : uT0 → uT0 → Option Bool) (hc : ∀ a b,∃ v,c a b = some v) (l : List uT0) (hl : l.length ≤ 12) :
  ∃ r,uF112 l c = some r ∧ r.length ≤ l.length ∧ ∀ a ∈ r,a ∈ l:=by
 unfold uF112;by_cases h2 : (l.length : Int) < 2
 ·exact ⟨l,by simp [h2],Nat.le_refl _,fun _ h=>h⟩
 ·have hd2 : decide ((l.length : Int) < 2) = false:=decide_eq_false h2
  obtain ⟨r,h1,hr⟩:=loopO_ind (step:=fun s : List uT0 × Int=>uF112a c s.1 s.2) (fun q=>q.1 = l ∧ 1 ≤ q.2 ∧ q.2 ≤ l.length) (fun r : List uT0 ⊕ List uT0=>∃ m,(r = .inl m ∨ r = .inr m) ∧ m.length ≤ l.length ∧ ∀ a ∈ m,a ∈ l) (fun q=>(l.length - q.2).toNat) (fun q hq=>by
   obtain ⟨q,k⟩:=q;obtain ⟨hq1,k1,k2⟩:=hq;simp only [] at hq1 k1 k2;subst hq1;simp only [uF112a];by_cases hk : k < (q.length : Int)
   ·obtain ⟨x,hx,_⟩:=idx_of (l:=q) (n:=k) (by omega) hk
    obtain ⟨y,hy,_⟩:=idx_of (l:=q) (n:=k - 1) (by omega) (by omega);have w1 : IntKind.wrap .i64 (k - 1) = k - 1:=w64 (by omega) (by omega);have w2 : IntKind.wrap .i64 (k + 1) = k + 1:=w64 (by omega) (by omega);obtain ⟨v,hv⟩:=hc x y;simp only [hk,decide_true,cond_true,hx,hy,w1,w2,hv,Option.bind_some,bnd];cases v with
    | false=>exact .inr ⟨_,rfl,⟨rfl,by (try simp only []); omega,by (try simp only []); omega⟩,by (try simp only []); omega⟩
    | true =>
     have hmk : mkV q k = some k:=by unfold mkV; rw [if_pos ⟨by omega,hk⟩]
     obtain ⟨e,g1,g2,g3,g4,g5⟩:=loopO_ind (step:=fun s : List uT0 × Int × Int=>uF112b c k s.1 s.2.1 s.2.2) (fun t=>t.1.length = q.length ∧ (∀ a ∈ t.1,a ∈ q) ∧ k ≤ t.2.1 ∧ 1 ≤ t.2.2 ∧ t.2.1 ≤ k + t.2.2 - 1 ∧ t.2.2 ≤ q.length - k) (fun e : List uT0 × Int=>e.1.length = q.length ∧ (∀ a ∈ e.1,a ∈ q) ∧ k ≤ e.2 ∧ e.2 < q.length) (fun t=>(q.length - t.2.2).toNat) (fun t ht=>by
      obtain ⟨m,i,j⟩:=t;obtain ⟨t1,t2,t3,t4,t5,t6⟩:=ht;simp only [] at t1 t2 t3 t4 t5 t6;have hvl : ((vwD m k).length : Int) = q.length - k:=by simp [vwD]; omega
      simp only [uF112b];by_cases hj : j < ((vwD m k).length : Int)
      ·obtain ⟨x,hx,mx⟩:=idx_of (l:=vwD m k) (n:=j) (by omega) hj
       obtain ⟨y,hy,_⟩:=idx_of (l:=vwD m k) (n:=j - 1) (by omega) (by omega);obtain ⟨z,hz,_⟩:=idx_of (l:=m) (n:=i) (by omega) (by omega);have w3 : IntKind.wrap .i64 (j - 1) = j - 1:=w64 (by omega) (by omega);have w4 : IntKind.wrap .i64 (j + 1) = j + 1:=w64 (by omega) (by omega);have w5 : IntKind.wrap .i64 (i + 1) = i + 1:=w64 (by omega) (by omega);obtain ⟨v,hv⟩:=hc x y;have mx2 : x ∈ q:=t2 x (List.mem_of_mem_drop mx);simp only [hj,decide_true,cond_true,hx,hy,hz,w3,w4,w5,hv,Option.bind_some,bnd];cases v with
       | false =>
        refine .inr ⟨_,rfl,⟨by simp [t1],fun a ha=>?_,by (try simp only []); omega,by (try simp only []); omega,by (try simp only []); omega,by (try simp only []); omega⟩,by (try simp only []); omega⟩;rcases List.mem_or_eq_of_mem_set ha with ha | rfl
        ·exact t2 a ha
        ·exact mx2
       | true=>exact .inr ⟨_,rfl,⟨t1,t2,by (try simp only []); omega,by (try simp only []); omega,by (try simp only []); omega,by (try simp only []); omega⟩,by (try simp only []); omega⟩
      ·refine .inl ⟨(m,i),by simp [hj],t1,t2,t3,?_⟩
       simp only [];omega) (q,k,1) ⟨rfl,fun _ h=>h,by simp,by simp,by simp,by (try simp only []); omega⟩
     obtain ⟨m,i⟩:=e;simp only [] at g2 g3 g4 g5;have hcl : clrV m i ((⟨([] : List UInt8),([] : List UInt8),(0 : Int),(0 : Int),(0 : Int),([] : List UInt8)⟩ : uT0)) = some (m.take i.toNat ++ List.replicate (m.length - i.toNat) ((⟨([] : List UInt8),([] : List UInt8),(0 : Int),(0 : Int),(0 : Int),([] : List UInt8)⟩ : uT0))):=by
      unfold clrV clrF;rw [if_pos (by omega),if_pos ⟨by omega,by omega⟩]
     obtain ⟨n,rfl⟩:=Int.eq_ofNat_of_zero_le (show 0 ≤ i by omega);have hsb : sub (m.take n ++ List.replicate (m.length - n) ((⟨([] : List UInt8),([] : List UInt8),(0 : Int),(0 : Int),(0 : Int),([] : List UInt8)⟩ : uT0))) 0 (n : Int) = some (m.take n):=by
      unfold sub;have hn : n ≤ m.length:=by omega
      rw [if_pos ⟨Int.le_refl _,by omega,by rw [List.length_append,List.length_take,List.length_replicate]; omega⟩];simp only [Int.toNat_natCast,Int.toNat_zero,List.drop_zero];rw [List.take_append_of_le_length (by rw [List.length_take]; omega),List.take_take,Nat.min_self]
     rw [Int.toNat_natCast] at hcl;simp only [cond_true,hmk,Option.bind_some,g1,hcl,hsb];exact .inl ⟨_,rfl,m.take n,.inr rfl,by simp; omega,fun a ha=>g3 a (List.mem_of_mem_take ha)⟩
   ·exact .inl ⟨.inl q,by simp [hk],q,.inl rfl,Nat.le_refl _,fun _ h=>h⟩) (l,1) ⟨rfl,by simp,by (try simp only []); omega⟩
  obtain ⟨m,hm,m1,m2⟩:=hr;refine ⟨m,?_,m1,m2⟩;rw [hd2,cond_false,h1];rcases hm with rfl | rfl <;> rfl
theorem bea_is (n : Int) (l : List uT0) (i : Int) (s : uT1) (k : Int) (hs : SOk s k) (hk : k ≤ 50000) (h0 : 0 ≤ i) (hi : i < n) (hn : n ≤ 9) (hl : l.length ≤ 1000) :
  ∃ s' b,uF65 n l i s = some (.inl (l ++ [b],i + 1,s')) ∧ BInv b ∧ SOk s' (k + 20):=by
 obtain ⟨p,e1,m1⟩:=some_in s [([97,110,110] : List UInt8),([97,110,110] : List UInt8),([98,111,98] : List UInt8)] k hs (by omega) (by simp) (by simp);obtain ⟨d,e2,m2⟩:=some_in ⟨s.L,s.at_ + 1⟩ [([100,101,115,107] : List UInt8),([112,104,111,110,101] : List UInt8)] _ hs.one (by omega) (by simp) (by simp);obtain ⟨st,e3,_,_⟩:=range_is ⟨s.L,s.at_ + 1 + 1⟩ 0 4 _ hs.one.one (by omega) (by omega) (by omega) (by omega);obtain ⟨a,e4,a1,a2⟩:=range_is ⟨s.L,s.at_ + 1 + 1 + 1⟩ 0 8 _ hs.one.one.one (by omega) (by omega) (by omega) (by omega);obtain ⟨t,e5,m5⟩:=some_in ⟨s.L,s.at_ + 1 + 1 + 1 + 1⟩ [([] : List UInt8),([] : List UInt8),([98,97,99,107,32,97,116,32,51] : List UInt8)] _ hs.one.one.one.one (by omega) (by simp) (by simp);obtain ⟨u,e6,_⟩:=pick_in ⟨s.L,s.at_ + 1 + 1 + 1 + 1 + 1⟩ [(0 : Int),(5 : Int),(7 : Int),(20 : Int),(100 : Int)] _ hs.one.one.one.one.one (by omega) (by simp) (by simp);obtain ⟨f,e7⟩:=flip_is ⟨s.L,s.at_ + 1 + 1 + 1 + 1 + 1 + 1⟩ 60 _ hs.one.one.one.one.one.one (by omega) (by omega) (by omega);have o7:=hs.one.one.one.one.one.one.one;have wa : IntKind.wrap .i64 (a * 5) = a * 5:=w64 (by omega) (by omega);have wi : IntKind.wrap .i64 (i + 1) = i + 1:=w64 (by omega) (by omega);have hd : decide (i < n) = true:=decide_eq_true hi;have hp : ∀ b : uT0,app 72 l [b] = some (l ++ [b]):=fun b=>app_of (by simp; omega) (by simp; omega);have md : d ∈ devs:=m2;unfold uF65
 cases f with
 | false =>
  simp only [hd,cond_true,e1,e2,e3,e4,e5,e6,e7,Option.bind_some,cond_false,wa,hp,bnd,wi];refine ⟨_,_,rfl,⟨?_,md,?_,by (try simp only []); omega,by (try simp only []); omega⟩,o7.up (by omega)⟩
  ·simp only [List.mem_cons,List.not_mem_nil,or_false] at m1
   rcases m1 with rfl | rfl | rfl <;> simp [pers]
  ·simp only [List.mem_cons,List.not_mem_nil,or_false] at m5
   rcases m5 with rfl | rfl | rfl <;> simp [notes]
 | true =>
  obtain ⟨q,e8,m8⟩:=some_in _ [([97,110,110] : List UInt8),([] : List UInt8)] _ o7 (by omega) (by simp) (by simp);obtain ⟨s9,x9,e9,o9,_⟩:=odd_is _ 0 4 _ o7.one (by omega) (by omega) (by omega) (by omega);obtain ⟨s10,x10,e10,o10,_⟩:=odd_is s9 0 50 _ o9 (by omega) (by omega) (by omega) (by omega);have e11 : uF34 [110] 101 = some (List.replicate 101 110):=by
   unfold uF34;rw [if_pos (by simp)];rfl
  obtain ⟨z,e12,m12⟩:=some_in s10 [([32,120] : List UInt8),([97,32,32,98] : List UInt8),([10] : List UInt8),List.replicate 101 110] _ o10 (by omega) (by simp) (by simp);simp only [hd,cond_true,e1,e2,e3,e4,e5,e6,e7,e8,e9,e10,e11,e12,Option.bind_some,wa,hp,bnd,wi];refine ⟨_,_,rfl,⟨?_,md,?_,by (try simp only []); omega,by (try simp only []); omega⟩,o10.one.up (by omega)⟩
  ·simp only [List.mem_cons,List.not_mem_nil,or_false] at m8
   rcases m8 with rfl | rfl <;> simp [pers]
  ·simp only [List.mem_cons,List.not_mem_nil,or_false] at m12
   rcases m12 with rfl | rfl | rfl | rfl <;> simp [notes]
theorem beacons_is (s0 : uT1) (n k : Int) (hs : SOk s0 k) (hk : k ≤ 20000) (h0 : 0 ≤ n) (hn : n ≤ 9) : ∃ s' l,uF65a s0 n = some (s',l) ∧ l.length ≤ 9 ∧ (∀ b ∈ l,BInv b) ∧ SOk s' (k + 200):=by
 obtain ⟨e,h1,h2,h3,h4⟩:=loopO_ind (step:=fun s : List uT0 × Int × uT1=>uF65 n s.1 s.2.1 s.2.2)
  (fun q=>0 ≤ q.2.1 ∧ q.2.1 ≤ n ∧ (q.1.length : Int) = q.2.1 ∧ (∀ b ∈ q.1,BInv b) ∧ SOk q.2.2 (k + 20 * q.2.1))
  (fun e=>e.1.length ≤ 9 ∧ (∀ b ∈ e.1,BInv b) ∧ SOk e.2 (k + 180)) (fun q=>(n - q.2.1).toNat) (fun q hq=>by
   obtain ⟨l,i,s⟩:=q;obtain ⟨q0,q1,q2,q3,q4⟩:=hq;simp only [] at q0 q1 q2 q3 q4;by_cases hlt : i < n
   ·obtain ⟨s',b,e1,e2,e3⟩:=bea_is n l i s _ q4 (by omega) q0 hlt hn (by omega)
    refine .inr ⟨(l ++ [b],i + 1,s'),e1,⟨by (try simp only []); omega,by (try simp only []); omega,by simp; omega,?_,e3.up (by (try simp only []); omega)⟩,by (try simp only []); omega⟩;intro r hr;rcases List.mem_append.1 hr with hr | hr
    ·exact q3 r hr
    ·simp at hr; subst hr; exact e2
   ·refine .inl ⟨(l,s),?_,by (try simp only []); omega,q3,q4.up (by (try simp only []); omega)⟩
    have hd : decide (i < n) = false:=by simpa using hlt
    simp only [uF65,hd,cond_false]) ([],0,s0) ⟨by simp,by simpa using h0,by simp,by simp,by simpa using hs⟩
 obtain ⟨l,s⟩:=e;simp only [] at h2 h3 h4;obtain ⟨r,f1,f2,f3⟩:=sort_is (fun a b=>uF111 a b) (fun a b=>⟨_,order_is a b⟩) l (by omega);obtain ⟨c,e2⟩:=flip_is s 60 _ h4 (by omega) (by omega) (by omega);have hr : ∀ b ∈ r,BInv b:=fun b hb=>h3 b (f3 b hb);simp only [uF65a,h1,Option.bind_some];rw [f1];simp only [Option.bind_some,e2];cases c with
 | true=>exact ⟨_,r,rfl,by omega,hr,h4.one.up (by omega)⟩
 | false =>
  obtain ⟨m,g1,g2,g3⟩:=compf_is (fun a b=>uF113 a b) (fun a b=>by
   simp only [uF113,order_is,Option.bind_some,bnd];exact ⟨_,rfl⟩) r (by omega)
  refine ⟨_,m,?_,by omega,fun b hb=>hr b (g3 b hb),h4.one.up (by omega)⟩;rw [cond_false,g1]; rfl
theorem right_is (s0 : uT1) (n k : Int) (hs : SOk s0 k) (hk : k ≤ 5000) (h0 : 0 ≤ n) (hn : n ≤ 9) : ∃ s' l,uF25 s0 n = some (s',l) ∧ l.length ≤ 9 ∧ (∀ b ∈ l,BInv b) ∧ uF67 l = some 0 ∧ SOk s' (k + 1000):=by
 obtain ⟨r,h1,h2⟩:=loopO_ind (step:=fun s : Int × uT1=>uF25a n s.1 s.2)
  (fun q=>0 ≤ q.1 ∧ q.1 ≤ 5 ∧ SOk q.2 (k + 200 * q.1)) (fun r : uT1 ⊕ (uT1 × List uT0)=>match r with
   | .inl s=>SOk s (k + 1000)
   | .inr p=>p.2.length ≤ 9 ∧ (∀ b ∈ p.2,BInv b) ∧ uF67 p.2 = some 0 ∧ SOk p.1 (k + 1000)) (fun q=>(5 - q.1).toNat) (fun q hq=>by
   obtain ⟨i,s⟩:=q;obtain ⟨q0,q1,q2⟩:=hq;simp only [] at q0 q1 q2;simp only [uF25a];by_cases hlt : i < 5
   ·obtain ⟨s',l,e1,e2,e3,e4⟩:=beacons_is s n _ q2 (by omega) h0 hn
    obtain ⟨e,e5⟩:=fault_some (l:=l) (by omega) e3;have wi : IntKind.wrap .i64 (i + 1) = i + 1:=w64 (by omega) (by omega);simp only [hlt,decide_true,cond_true,e1,e5,wi,Option.bind_some];by_cases he : e = 0
    ·subst he
     refine .inl ⟨.inr (s',l),rfl,e2,e3,?_,e4.up (by omega)⟩;rw [check_same (by omega) e3,e5]
    ·have he' : (e == 0) = false:=by simpa using he
     rw [he'];exact .inr ⟨_,rfl,⟨by (try simp only []); omega,by (try simp only []); omega,e4.up (by (try simp only []); omega)⟩,by (try simp only []); omega⟩
   ·exact .inl ⟨.inl s,by simp [hlt],q2.up (by omega)⟩) (0,s0) ⟨by simp,by simp,by simpa using hs⟩
 unfold uF25;rw [h1];cases r with
 | inl s =>
  refine ⟨s,[],rfl,by simp,by simp,?_,h2⟩;rw [check_same (by simp) (by simp)];unfold uF66a;rw [loopO_eq]; rfl
 | inr p=>exact ⟨p.1,p.2,rfl,h2.1,h2.2.1,h2.2.2.1,h2.2.2.2⟩

/-! Numbers in order,each once. -/
theorem arr_getI (l : List Int) (j : Nat) (hj : j < l.length) : l.toArray[j]! = l[j]:=by simp [hj]
theorem compact_uptoI (l : List Int) (h : l.Pairwise (· ≤ ·)) : ∀ m,m ≤ l.length →
  (Lib.compactUpTo l.toArray m).Pairwise (· < ·) ∧ ∀ x,x ∈ Lib.compactUpTo l.toArray m ↔ ∃ j,j < m ∧ l[j]? = some x:=by
 intro m;induction m with
 | zero=>intro _; simp [Lib.compactUpTo]
 | succ m ih =>
  intro hm;obtain ⟨i1,i2⟩:=ih (by omega);have hlt : m < l.length:=by omega
  have hmm : l[m]? = some l[m]:=by simp [hlt]
  have hle : ∀ j,j < m → ∀ x,l[j]? = some x → x ≤ l[m]:=fun j hj x hx=>by
   obtain ⟨h1,rfl⟩:=List.getElem?_eq_some_iff.1 hx;exact List.pairwise_iff_getElem.1 h j m h1 hlt hj
  rw [Lib.compactUpTo_succ,arr_getI l m hlt];by_cases hk : Lib.keeps l.toArray m = true
  ·rw [if_pos hk]
   refine ⟨List.pairwise_append.2 ⟨i1,by simp,?_⟩,?_⟩
   ·intro x hx y hy
    simp only [List.mem_singleton] at hy;subst hy;obtain ⟨j,hj,hx⟩:=(i2 x).1 hx;have h0:=hle j hj x hx;simp only [Lib.keeps,decide_eq_true_eq] at hk;rcases hk with hk | hk
    ·omega
    ·rw [arr_getI l m hlt,arr_getI l (m - 1) (by omega)] at hk
     have h3 : l[m - 1] ≤ l[m]:=List.pairwise_iff_getElem.1 h (m - 1) m (by omega) hlt (by omega);have h4 : x ≤ l[m - 1]:=by
      by_cases e : j = m - 1
      ·subst e
       have:=(List.getElem?_eq_some_iff.1 hx).2
       omega
      ·obtain ⟨h4,h5⟩:=List.getElem?_eq_some_iff.1 hx
       rw [← h5];exact List.pairwise_iff_getElem.1 h j (m - 1) h4 (by omega) (by omega)
     omega
   ·intro x
    rw [List.mem_append,i2,List.mem_singleton];constructor
    ·rintro (⟨j,hj,hx⟩ | rfl)
     ·exact ⟨j,by omega,hx⟩
     ·exact ⟨m,by omega,hmm⟩
    ·rintro ⟨j,hj,hx⟩
     by_cases e : j = m
     ·subst e
      rw [hmm] at hx;exact .inr (Option.some.inj hx).symm
     ·exact .inl ⟨j,by omega,hx⟩
  ·rw [if_neg hk,List.append_nil]
   refine ⟨i1,fun x=>?_⟩;rw [i2];constructor
   ·rintro ⟨j,hj,hx⟩
    exact ⟨j,by omega,hx⟩
   ·rintro ⟨j,hj,hx⟩
    by_cases e : j = m
    ·subst e
     simp only [Lib.keeps,decide_eq_true_eq,not_or,Decidable.not_not] at hk;obtain ⟨k1,k2⟩:=hk;rw [arr_getI l j hlt,arr_getI l (j - 1) (by omega)] at k2;refine ⟨j - 1,by omega,?_⟩;rw [List.getElem?_eq_getElem (by omega : j - 1 < l.length),← k2,← hmm,hx]
    ·exact ⟨j,by omega,hx⟩
theorem once_isI {l : List Int} : (Lib.compact (srtI l)).Pairwise (· < ·) ∧ ∀ x,x ∈ Lib.compact (srtI l) ↔ x ∈ l:=by
 have hs : (srtI l).Pairwise (· ≤ ·):=by
  have:=List.pairwise_mergeSort (le:=fun x y : Int=>decide (x ≤ y)) (fun a b c h1 h2=>by
   simp only [decide_eq_true_eq] at h1 h2 ⊢;omega) (fun a b=>by
   simp only [Bool.or_eq_true,decide_eq_true_eq];omega) l
  exact this.imp (by intro a b h; simpa using h)
 obtain ⟨h1,h2⟩:=compact_uptoI (srtI l) hs (srtI l).length (Nat.le_refl _);refine ⟨h1,fun x=>?_⟩;show x ∈ Lib.compactUpTo _ _ ↔ _;rw [h2];have : x ∈ srtI l ↔ x ∈ l:=List.mem_mergeSort;rw [← this,List.mem_iff_getElem?];constructor
 ·rintro ⟨j,_,hj⟩; exact ⟨j,hj⟩
 ·rintro ⟨j,hj⟩; exact ⟨j,(List.getElem?_eq_some_iff.1 hj).1,hj⟩
def noB : uT0:=⟨[],[],0,0,0,[]⟩
theorem says_some (l : List uT0) (x : List UInt8) (t : Int) (hl : l.length ≤ 100) : ∃ b f,uF70 l x t = some (b,f) ∧ (f = true → b.Person = x):=by
 obtain ⟨r,h1,h2⟩:=loopO_ind (step:=fun s : Bool × Int × uT0=>uF70a l x t s.1 s.2.1 s.2.2) (fun q=>0 ≤ q.2.1 ∧ q.2.1 ≤ l.length ∧ (q.1 = true → q.2.2.Person = x)) (fun r : Bool × uT0=>r.1 = true → r.2.Person = x) (fun q=>(l.length - q.2.1).toNat) (fun q hq=>by
  obtain ⟨f,i,b⟩:=q;obtain ⟨q0,q1,q2⟩:=hq;simp only [] at q0 q1 q2;simp only [uF70a];by_cases hlt : i < (l.length : Int)
  ·obtain ⟨y,hy,_⟩:=idx_of q0 hlt
   have wi : IntKind.wrap .i64 (i + 1) = i + 1:=w64 (by omega) (by omega);have hn : i + 1 < (l.length : Int) → ∃ z,idx l (i + 1) = some z:=fun h=>by
    obtain ⟨z,hz,_⟩:=idx_of (l:=l) (n:=i + 1) (by omega) h;exact ⟨z,hz⟩
   simp only [hlt,decide_true,cond_true,hy,Option.bind_some,wi];have key : ∀ o : Option Bool,(∃ v,o = some v) → ∀ g : Bool → Option ((Bool × Int × uT0) ⊕ (Bool × uT0)),(∀ v,∃ f' b',g v = some (.inl (f',i + 1,b')) ∧ (f' = true → b'.Person = x)) → ∃ f' b',o.bind g = some (.inl (f',i + 1,b')) ∧ (f' = true → b'.Person = x):=by
    rintro _ ⟨v,rfl⟩ g hg;exact hg v
   have main : ∃ f' b',(bif (((!(y.Person == x)) || (decide (y.At > t))) || (decide (t ≥ y.Until))) then (some (.inl ((f,i + 1,b)))) else ((bif (decide ((i + 1) < ((List.length l : Int)))) then ((idx l (i + 1)).bind fun y142=>some ((y142.Person == x))) else (some false)).bind fun y150=>(bif y150 then ((idx l (i + 1)).bind fun y183=>some ((y183.Device == y.Device))) else (some false)).bind fun y191=>(bif y191 then ((idx l (i + 1)).bind fun y224=>some ((decide (y224.At ≤ t)))) else (some false)).bind fun y232=>bif y232 then (some (.inl ((f,i + 1,b)))) else ((bif (!f) then (some true) else ((uF55 y.State b.State).bind fun y264=>(uF55 y.At b.At).bind fun y267=>(uF53a (([y264,y267] : List Int))).bind fun y271=>some ((decide (y271 > ((0 : Int))))))).bind fun y274=>bif y274 then (some (.inl ((true,i + 1,y)))) else (some (.inl ((f,i + 1,b)))))) : Option ((Bool × Int × uT0) ⊕ (Bool × uT0))) = some (.inl (f',i + 1,b')) ∧ (f' = true → b'.Person = x):=by
    cases hp : (y.Person == x) with
    | false=>exact ⟨f,b,by simp,q2⟩
    | true =>
     have hpx : y.Person = x:=by simpa using hp
     cases hc : ((decide (y.At > t)) || (decide (t ≥ y.Until))) with
     | true=>exact ⟨f,b,by simp [hc],q2⟩
     | false =>
      have hc2 : (((!true) || (decide (y.At > t))) || (decide (t ≥ y.Until))) = false:=by simpa using hc
      rw [hc2,cond_false];by_cases hl2 : i + 1 < (l.length : Int)
      ·obtain ⟨z,hz⟩:=hn hl2
       simp only [hl2,decide_true,cond_true,hz,Option.bind_some];refine key _ ?_ _ fun v1=>key _ ?_ _ fun v2=>?_
       ·cases (z.Person == x) <;> exact ⟨_,rfl⟩
       ·cases v1 <;> exact ⟨_,rfl⟩
       ·cases v2 with
        | true=>exact ⟨f,b,rfl,q2⟩
        | false =>
         simp only [cond_false,cmpi_is,or2_is,Option.bind_some];refine key _ ?_ _ fun v3=>?_
         ·cases f <;> exact ⟨_,rfl⟩
         ·cases v3 with
          | true=>exact ⟨true,y,rfl,fun _=>hpx⟩
          | false=>exact ⟨f,b,rfl,q2⟩
      ·simp only [hl2,decide_false,cond_false,Option.bind_some,cmpi_is,or2_is]
       refine key _ ?_ _ fun v3=>?_
       ·cases f <;> exact ⟨_,rfl⟩
       ·cases v3 with
        | true=>exact ⟨true,y,rfl,fun _=>hpx⟩
        | false=>exact ⟨f,b,rfl,q2⟩
   obtain ⟨f',b',g1,g2⟩:=main;exact .inr ⟨_,g1,⟨by (try simp only []); omega,by (try simp only []); omega,g2⟩,by (try simp only []); omega⟩
  ·exact .inl ⟨(f,b),by simp [hlt],q2⟩) (false,0,noB) ⟨by simp,by simp,by simp⟩
 obtain ⟨f,b⟩:=r;refine ⟨b,f,?_,h2⟩;unfold uF70;unfold noB at h1;rw [h1]; rfl
theorem says_same (l : List uT0) (x : List UInt8) (t u : Int) (h : ∀ b ∈ l,b.Person = x → (b.At ≤ t ↔ b.At ≤ u) ∧ (b.Until ≤ t ↔ b.Until ≤ u)) : uF70 l x t = uF70 l x u:=by
 have hstep : ∀ f i b,uF70a l x t f i b = uF70a l x u f i b:=by
  intro f i b;unfold uF70a;cases hd : decide (i < (l.length : Int)) with
  | false=>rfl
  | true =>
   simp only [cond_true];cases hy : idx l i with
   | none=>rfl
   | some y =>
    have my : y ∈ l:=by
     unfold idx at hy;split at hy
     ·exact List.mem_of_getElem? hy
     ·simp at hy
    simp only [Option.bind_some];cases hp : (y.Person == x) with
    | false=>simp
    | true =>
     have hq:=h y my (by simpa using hp);have e1 : decide (y.At > t) = decide (y.At > u):=by
      by_cases c : y.At ≤ t
      ·rw [decide_eq_false (by omega),decide_eq_false (by have:=hq.1.1 c; omega)]
      ·rw [decide_eq_true (by omega),decide_eq_true (by have:=mt hq.1.2 c; omega)]
     have e2 : decide (t ≥ y.Until) = decide (u ≥ y.Until):=by
      by_cases c : y.Until ≤ t
      ·rw [decide_eq_true (by omega),decide_eq_true (by have:=hq.2.1 c; omega)]
      ·rw [decide_eq_false (by omega),decide_eq_false (by have:=mt hq.2.2 c; omega)]
     rw [e1,e2];have e3 : ∀ g : Bool → Option ((Bool × Int × uT0) ⊕ (Bool × uT0)),((bif (decide (((IntKind.wrap .i64 (i + ((1 : Int))))) < ((List.length l : Int)))) then ((idx l ((IntKind.wrap .i64 (i + ((1 : Int)))))).bind fun y142=>some ((y142.Person == x))) else (some false)).bind fun y150=>(bif y150 then ((idx l ((IntKind.wrap .i64 (i + ((1 : Int)))))).bind fun y183=>some ((y183.Device == y.Device))) else (some false)).bind fun y191=>(bif y191 then ((idx l ((IntKind.wrap .i64 (i + ((1 : Int)))))).bind fun y224=>some ((decide (y224.At ≤ t)))) else (some false)).bind g)
       = ((bif (decide (((IntKind.wrap .i64 (i + ((1 : Int))))) < ((List.length l : Int)))) then ((idx l ((IntKind.wrap .i64 (i + ((1 : Int)))))).bind fun y142=>some ((y142.Person == x))) else (some false)).bind fun y150=>(bif y150 then ((idx l ((IntKind.wrap .i64 (i + ((1 : Int)))))).bind fun y183=>some ((y183.Device == y.Device))) else (some false)).bind fun y191=>(bif y191 then ((idx l ((IntKind.wrap .i64 (i + ((1 : Int)))))).bind fun y224=>some ((decide (y224.At ≤ u)))) else (some false)).bind g):=by
      intro g;cases hz : idx l (IntKind.wrap .i64 (i + 1)) with
      | none=>rfl
      | some z =>
       have mz : z ∈ l:=by
        unfold idx at hz;split at hz
        ·exact List.mem_of_getElem? hz
        ·simp at hz
       cases hzp : (z.Person == x) with
       | false=>simp [hzp]
       | true =>
        have hq:=h z mz (by simpa using hzp);have e4 : decide (z.At ≤ t) = decide (z.At ≤ u):=by
         by_cases c : z.At ≤ t
         ·rw [decide_eq_true c,decide_eq_true (hq.1.1 c)]
         ·rw [decide_eq_false c,decide_eq_false (mt hq.1.2 c)]
        simp only [Option.bind_some,e4]
     rw [e3]
 unfold uF70;have : (fun s : Bool × Int × uT0=>uF70a l x t s.1 s.2.1 s.2.2) = fun s=>uF70a l x u s.1 s.2.1 s.2.2:=funext fun s=>hstep _ _ _;rw [this]

/-! The edges. -/
def edB (x : List UInt8) (w : uT2) (b : uT0) : List Int:=[b.At,b.Until].filter fun n=>(b.Person == x) && (decide (n > w.From)) && (decide (n < w.To))
def edges (l : List uT0) (x : List UInt8) (w : uT2) : List Int:=[w.From,w.To] ++ l.flatMap (edB x w)
theorem filt_take {α : Type} (p : α → Bool) (l : List α) (k : Nat) (a : α) (h : l[k]? = some a) : (l.take (k + 1)).filter p = (l.take k).filter p ++ (if p a = true then [a] else []):=by
 rw [List.take_add_one,h];simp [List.filter_append,List.filter_cons]
theorem ed_in (x : List UInt8) (w : uT2) (b : uT0) (e : List Int) (he : e.length ≤ 10000) : loopO (fun s : List Int × Int=>uF27a x w b s.1 s.2) (e,0) = some (e ++ edB x w b):=by
 have hf : ∀ k,(([b.At,b.Until].take k).filter fun n=>(b.Person == x) && (decide (n > w.From)) && (decide (n < w.To))).length ≤ 2:=fun k=>by
  refine Nat.le_trans (List.length_filter_le _ _) ?_;rw [List.length_take];exact Nat.min_le_right _ _
 have h:=loop_for (N:=2) (step:=fun s : List Int × Int=>uF27a x w b s.1 s.2) (fun k=>(e ++ ([b.At,b.Until].take k).filter fun n=>(b.Person == x) && (decide (n > w.From)) && (decide (n < w.To)),(k : Int))) (e ++ edB x w b) (fun k hk=>by
  obtain ⟨n,hn⟩ : ∃ n,[b.At,b.Until][k]? = some n:=⟨[b.At,b.Until][k],by simp [hk]⟩;have hd : decide ((k : Int) < (([b.At,b.Until] : List Int).length : Int)) = true:=decide_eq_true (by simp; omega);have wk : IntKind.wrap .i64 ((k : Int) + 1) = ((k + 1 : Nat) : Int):=by rw [w64] <;> omega
  have:=hf k
  show uF27a x w b _ _ = _;unfold uF27a;rw [hd,wk,filt_take _ _ _ _ hn,← List.append_assoc];have hp : ∀ W : List Int,W.length ≤ 20000 → app 8 W [n] = some (W ++ [n]):=fun W hW=>app_of (by simp; omega) (by simp; omega);generalize hW : e ++ ([b.At,b.Until].take k).filter (fun n=>(b.Person == x) && (decide (n > w.From)) && (decide (n < w.To))) = W;have hWl : W.length ≤ 20000:=by rw [← hW,List.length_append]; omega
  simp only [cond_true,idx_nat,hn,Option.bind_some,hp W hWl];cases hc : ((b.Person == x) && (decide (n > w.From)) && (decide (n < w.To)))
  ·simp [hc]
  ·simp [hc]) (by
  show uF27a x w b _ _ = _;unfold uF27a;rfl)
 simpa using h
theorem edB_len (x : List UInt8) (w : uT2) (b : uT0) : (edB x w b).length ≤ 2:=List.length_filter_le _ _
theorem fm_len {α β : Type} {f : α → List β} {n : Nat} : ∀ l : List α,(∀ a ∈ l,(f a).length ≤ n) → (l.flatMap f).length ≤ n * l.length
 | [],_=>by simp
 | a :: l,h=>by
  have h1:=fm_len l fun b hb=>h b (List.mem_cons_of_mem _ hb)
  have h2:=h a (by simp)
  rw [List.flatMap_cons,List.length_append,List.length_cons,Nat.mul_succ]
  omega
theorem fm_take {α β : Type} (f : α → List β) (l : List α) (k : Nat) (d : α) (h : l[k]? = some d) : (l.take (k + 1)).flatMap f = (l.take k).flatMap f ++ f d:=by
 rw [List.take_add_one,h]; simp
theorem ed_all (l : List uT0) (x : List UInt8) (w : uT2) (hl : l.length ≤ 100) : loopO (fun s : List Int × Int=>uF27 l x w s.1 s.2) ([w.From,w.To],0) = some (edges l x w):=by
 have h:=loop_for (N:=l.length) (step:=fun s : List Int × Int=>uF27 l x w s.1 s.2) (fun k=>([w.From,w.To] ++ (l.take k).flatMap (edB x w),(k : Int))) (edges l x w) (fun k hk=>by
  have hd : decide ((k : Int) < (l.length : Int)) = true:=decide_eq_true (by omega);have wk : IntKind.wrap .i64 ((k : Int) + 1) = ((k + 1 : Nat) : Int):=by rw [w64] <;> omega
  have hg : l[k]? = some l[k]:=by simp [hk]
  have h1 : ((l.take k).flatMap (edB x w)).length ≤ 2 * (l.take k).length:=fm_len (f:=edB x w) (n:=2) (l.take k) fun b _=>edB_len x w b;rw [List.length_take] at h1;show uF27 l x w _ _ = _;unfold uF27;rw [hd,wk,fm_take _ _ _ _ hg];simp only [cond_true,idx_at hk,Option.bind_some];rw [ed_in x w l[k] _ (by rw [List.length_append,show ([w.From,w.To] : List Int).length = 2 from rfl]; omega)];simp only [Option.bind_some,List.append_assoc]) (by
  have hd : decide ((l.length : Int) < (l.length : Int)) = false:=decide_eq_false (by omega);show uF27 l x w _ _ = _;unfold uF27;rw [hd,cond_false,List.take_length]; rfl)
 simpa using h
theorem mem_edges {l : List uT0} {x : List UInt8} {w : uT2} {n : Int} : n ∈ edges l x w ↔ n = w.From ∨ n = w.To ∨ ∃ b ∈ l,b.Person = x ∧ (n = b.At ∨ n = b.Until) ∧ w.From < n ∧ n < w.To:=by
 simp only [edges,edB,List.mem_append,List.mem_cons,List.not_mem_nil,or_false,List.mem_flatMap,List.mem_filter,Bool.and_eq_true,beq_iff_eq,decide_eq_true_eq,gt_iff_lt];constructor
 ·rintro ((h | h) | ⟨b,hb,h1,⟨h2,h3⟩,h4⟩)
  ·exact .inl h
  ·exact .inr (.inl h)
  ·exact .inr (.inr ⟨b,hb,h2,h1,h3,h4⟩)
 ·rintro (h | h | ⟨b,hb,h1,h2,h3,h4⟩)
  ·exact .inl (.inl h)
  ·exact .inl (.inr h)
  ·exact .inr ⟨b,hb,h2,⟨h1,h3⟩,h4⟩
def cov (x : uT0) (t : Int) : Prop:=x.At ≤ t ∧ t < x.Until
def alike (x b : uT0) : Prop:=x.State = b.State ∧ x.Device = b.Device ∧ x.Note = b.Note
def Good (l : List uT0) (x : List UInt8) (out : List uT0) (t : Int) : Prop :=
  ∃ b f,uF70 l x t = some (b,f) ∧ ((f = true ∧ (∃ o ∈ out,cov o t) ∧ ∀ o ∈ out,cov o t → alike o b) ∨ (f = false ∧ ∀ o ∈ out,¬ cov o t))
theorem sorted_gap {E : List Int} (h : E.Pairwise (· < ·)) {k : Nat} {e e' : Int} (h1 : E[k]? = some e) (h2 : E[k + 1]? = some e') {n : Int} (hn : n ∈ E) : n ≤ e ∨ e' ≤ n:=by
 obtain ⟨j,hj,rfl⟩:=List.getElem_of_mem hn;obtain ⟨a1,rfl⟩:=List.getElem?_eq_some_iff.1 h1;obtain ⟨a2,rfl⟩:=List.getElem?_eq_some_iff.1 h2;by_cases c : j ≤ k
 ·by_cases c2 : j = k
  ·subst c2; exact .inl (Int.le_refl _)
  ·have:=List.pairwise_iff_getElem.1 h j k hj a1 (by omega)
   omega
 ·by_cases c2 : j = k + 1
  ·subst c2; exact .inr (Int.le_refl _)
  ·have:=List.pairwise_iff_getElem.1 h (k + 1) j a2 hj (by omega)
   omega
theorem good_same {l : List uT0} {x : List UInt8} {w : uT2} {E : List Int} (hE : E.Pairwise (· < ·)) (hm : ∀ n,n ∈ E ↔ n ∈ edges l x w) {k : Nat} {e e' t : Int} (h1 : E[k]? = some e) (h2 : E[k + 1]? = some e') (he : w.From ≤ e) (he' : e' ≤ w.To) (t1 : e ≤ t) (t2 : t < e') :
  uF70 l x t = uF70 l x e:=by
 refine says_same l x t e fun b hb hp=>?_;have gap : ∀ n,(n = b.At ∨ n = b.Until) → e < n → n ≤ t → False:=fun n hn q1 q2=>by
  have : n ∈ E:=(hm n).2 (mem_edges.2 (.inr (.inr ⟨b,hb,hp,hn,by omega,by omega⟩)));rcases sorted_gap hE h1 h2 this with h | h <;> omega
 refine ⟨⟨fun h=>?_,fun h=>by omega⟩,⟨fun h=>?_,fun h=>by omega⟩⟩
 ·by_cases c : b.At ≤ e
  ·exact c
  ·exact absurd (gap _ (.inl rfl) (by omega) h) id
 ·by_cases c : b.Until ≤ e
  ·exact c
  ·exact absurd (gap _ (.inr rfl) (by omega) h) id
structure TI (l : List uT0) (x : List UInt8) (w : uT2) (e : Int) (k : Nat) (out : List uT0) (last : uT0) : Prop where
  len : out.length ≤ k
  at_ : ∀ o ∈ out,o.At ≤ e ∧ o.Until ≤ e
  good : ∀ t,w.From ≤ t → t < e → Good l x out t
  lst : last.Person = x → ∃ o,out[out.length - 1]? = some o ∧ out ≠ [] ∧ o.Until = e ∧ alike o last
theorem th_step {l : List uT0} {x : List UInt8} {w : uT2} {E : List Int} (hl : l.length ≤ 100) (hx : x ≠ []) (hE : E.Pairwise (· < ·)) (hm : ∀ n,n ∈ E ↔ n ∈ edges l x w) (hEl : E.length ≤ 1000) {k : Nat} {e e' : Int} (h1 : E[k]? = some e) (h2 : E[k + 1]? = some e') (he : w.From ≤ e) (he' : e' ≤ w.To)
  {out : List uT0} {last : uT0} (hT : TI l x w e k out last) : ∃ out' last',uF27b l x E out (k : Int) last = some (.inl (out',(k : Int) + 1,last')) ∧ TI l x w e' (k + 1) out' last':=by
 have hk1:=(List.getElem?_eq_some_iff.1 h1).1;have hk2:=(List.getElem?_eq_some_iff.1 h2).1;have hlt : e < e':=by
  obtain ⟨_,rfl⟩:=List.getElem?_eq_some_iff.1 h1;obtain ⟨_,rfl⟩:=List.getElem?_eq_some_iff.1 h2;exact List.pairwise_iff_getElem.1 hE k (k + 1) hk1 hk2 (by omega)
 have wk : IntKind.wrap .i64 ((k : Int) + 1) = (k : Int) + 1:=w64 (by omega) (by omega);have i1 : idx E (k : Int) = some e:=by rw [idx_nat,h1]
 have i2 : idx E ((k : Int) + 1) = some e':=by rw [show (k : Int) + 1 = ((k + 1 : Nat) : Int) from by omega,idx_nat,h2]
 have hd : decide ((k : Int) + 1 < (E.length : Int)) = true:=decide_eq_true (by omega);obtain ⟨b,f,hs,hbx⟩:=says_some l x e hl;have same : ∀ t,e ≤ t → t < e' → uF70 l x t = some (b,f):=fun t t1 t2=>by
  rw [good_same hE hm h1 h2 he he' t1 t2,hs]
 obtain ⟨g1,g2,g3,g4⟩:=hT;unfold uF27b;simp only [wk,hd,cond_true,i1,i2,Option.bind_some,hs,bnd];cases f with
 | false =>
  refine ⟨out,noB,rfl,by omega,fun o ho=>?_,fun t t1 t2=>?_,fun h=>absurd h.symm hx⟩
  ·have:=g2 o ho; omega
  ·by_cases c : t < e
   ·exact g3 t t1 c
   ·refine ⟨b,false,same t (by omega) t2,.inr ⟨rfl,fun o ho hc=>?_⟩⟩
    have:=g2 o ho
    unfold cov at hc;omega
 | true =>
  have hbp:=hbx rfl;have wl : IntKind.wrap .i64 ((out.length : Int) - 1) = (out.length : Int) - 1:=w64 (by omega) (by omega);simp only [Bool.not_true,cond_false,wl];cases hc : ((decide ((out.length : Int) - 1 ≥ 0)) && (b.Person == last.Person && (b.Device == last.Device && (b.State == last.State && (b.At == last.At && (b.Until == last.Until && (b.Note == last.Note && true))))))) with
  | true =>
   simp only [Bool.and_eq_true,decide_eq_true_eq,beq_iff_eq,Bool.and_true] at hc;obtain ⟨c0,c1,c2,c3,c4,c5,c6⟩:=hc;obtain ⟨o,q1,q2,q3,q4⟩:=g4 (by rw [← c1,hbp]);have hlen : out.length - 1 < out.length:=by omega
   have i3 : idx out ((out.length : Int) - 1) = some o:=by rw [show (out.length : Int) - 1 = ((out.length - 1 : Nat) : Int) from by omega,idx_nat,q1]
   have tn : Int.toNat ((out.length : Int) - 1) = out.length - 1:=by omega
   simp only [cond_true,i3,Option.bind_some,tn];have mo : o ∈ out:=List.mem_of_getElem? q1;have hoa:=g2 o mo;obtain ⟨o',ho'⟩ : ∃ o' : uT0,o' = ⟨o.Person,o.Device,o.State,o.At,e',o.Note⟩:=⟨_,rfl⟩;have a1 : o'.At = o.At:=by rw [ho']
   have a2 : o'.Until = e':=by rw [ho']
   have a3 : alike o' last:=by rw [ho']; exact q4
   have a4 : alike o o':=by rw [ho']; exact ⟨rfl,rfl,rfl⟩
   rw [← ho'];have mem' : ∀ y ∈ out.set (out.length - 1) o',y ∈ out ∨ y = o':=fun y hy=>List.mem_or_eq_of_mem_set hy;have mo' : o' ∈ out.set (out.length - 1) o':=by
    refine List.mem_of_getElem? (i:=out.length - 1) ?_;simp [hlen]
   have keep : ∀ y ∈ out,y ∈ out.set (out.length - 1) o' ∨ y = o:=fun y hy=>by
    obtain ⟨j,hj,rfl⟩:=List.getElem_of_mem hy;by_cases c : j = out.length - 1
    ·right
     have:=(List.getElem?_eq_some_iff.1 q1).2
     rw [← this];congr 1
    ·left
     refine List.mem_of_getElem? (i:=j) ?_;rw [List.getElem?_set_ne (by omega)];simp [hj]
   have cv : ∀ t,t < e → (cov o' t ↔ cov o t):=fun t ht=>by
    unfold cov;rw [a1,a2,q3];constructor <;> (intro h; omega)
   refine ⟨_,last,rfl,by rw [List.length_set]; omega,fun y hy=>?_,fun t t1 t2=>?_,fun _=>⟨o',?_,?_,a2,a3⟩⟩
   ·rcases mem' y hy with hy | rfl
    ·have:=g2 y hy; omega
    ·rw [a1,a2]; omega
   ·by_cases c : t < e
    ·obtain ⟨b0,f0,s0,r0⟩:=g3 t t1 c
     refine ⟨b0,f0,s0,?_⟩;rcases r0 with ⟨r1,⟨y,hy,hc⟩,r3⟩ | ⟨r1,r2⟩
     ·refine .inl ⟨r1,?_,fun y hy hc=>?_⟩
      ·rcases keep y hy with h | rfl
       ·exact ⟨y,h,hc⟩
       ·exact ⟨o',mo',(cv t c).2 hc⟩
      ·rcases mem' y hy with hy | rfl
       ·exact r3 y hy hc
       ·have h0:=r3 o mo ((cv t c).1 hc)
        obtain ⟨z1,z2,z3⟩:=h0;obtain ⟨y1,y2,y3⟩:=a4;exact ⟨y1 ▸ z1,y2 ▸ z2,y3 ▸ z3⟩
     ·refine .inr ⟨r1,fun y hy hc=>?_⟩
      rcases mem' y hy with hy | rfl
      ·exact r2 y hy hc
      ·exact r2 o mo ((cv t c).1 hc)
    ·refine ⟨b,true,same t (by omega) t2,.inl ⟨rfl,⟨o',mo',?_⟩,fun y hy hc=>?_⟩⟩
     ·unfold cov; rw [a1,a2]; omega
     ·rcases mem' y hy with hy | rfl
      ·have:=g2 y hy
       unfold cov at hc;omega
      ·obtain ⟨z1,z2,z3⟩:=a3
       exact ⟨z1.trans c3.symm,z2.trans c2.symm,z3.trans c6.symm⟩
   ·rw [List.length_set,List.getElem?_set_self hlen]
   ·intro h
    have:=congrArg List.length h
    rw [List.length_set] at this;simp at this;exact q2 this
  | false =>
   have ha : app 72 out [(⟨b.Person,b.Device,b.State,e,e',b.Note⟩ : uT0)] = some (out ++ [(⟨b.Person,b.Device,b.State,e,e',b.Note⟩ : uT0)]):=app_of (by simp; omega) (by simp; omega);simp only [cond_false,ha,Option.bind_some];obtain ⟨o',ho'⟩ : ∃ o' : uT0,o' = ⟨b.Person,b.Device,b.State,e,e',b.Note⟩:=⟨_,rfl⟩;have a1 : o'.At = e:=by rw [ho']
   have a2 : o'.Until = e':=by rw [ho']
   have a3 : alike o' b:=by rw [ho']; exact ⟨rfl,rfl,rfl⟩
   rw [← ho'];refine ⟨_,b,rfl,by simp; omega,fun y hy=>?_,fun t t1 t2=>?_,fun _=>⟨o',by simp,by simp,a2,a3⟩⟩
   ·rcases List.mem_append.1 hy with hy | hy
    ·have:=g2 y hy; omega
    ·simp only [List.mem_singleton] at hy
     subst hy;rw [a1,a2]; omega
   ·by_cases c : t < e
    ·obtain ⟨b0,f0,s0,r0⟩:=g3 t t1 c
     have no : ¬ cov o' t:=by unfold cov; rw [a1]; omega
     refine ⟨b0,f0,s0,?_⟩;rcases r0 with ⟨r1,⟨y,hy,hc⟩,r3⟩ | ⟨r1,r2⟩
     ·refine .inl ⟨r1,⟨y,List.mem_append_left _ hy,hc⟩,fun y hy hc=>?_⟩
      rcases List.mem_append.1 hy with hy | hy
      ·exact r3 y hy hc
      ·simp only [List.mem_singleton] at hy
       subst hy;exact absurd hc no
     ·refine .inr ⟨r1,fun y hy hc=>?_⟩
      rcases List.mem_append.1 hy with hy | hy
      ·exact r2 y hy hc
      ·simp only [List.mem_singleton] at hy
       subst hy;exact no hc
    ·refine ⟨b,true,same t (by omega) t2,.inl ⟨rfl,⟨o',by simp,?_⟩,fun y hy hc=>?_⟩⟩
     ·unfold cov; rw [a1,a2]; omega
     ·rcases List.mem_append.1 hy with hy | hy
      ·have:=g2 y hy
       unfold cov at hc;omega
      ·simp only [List.mem_singleton] at hy
       subst hy;exact a3
theorem ann_key : uF57 [97,110,110] = some true:=by kernel_rfl
theorem through_is {l : List uT0} (hl : l.length ≤ 9) (hcb : uF67 l = some 0) {w : uT2} (w1 : 0 ≤ w.From) (w2 : w.From ≤ w.To) (w3 : w.To ≤ 1000) :
  ∃ out,uF27c l [97,110,110] w = some (out,0) ∧ out.length ≤ 1000 ∧ ∀ t,w.From ≤ t → t < w.To → Good l [97,110,110] out t:=by
 obtain ⟨x,hx0⟩ : ∃ x : List UInt8,x = [97,110,110]:=⟨_,rfl⟩;have hx : x ≠ []:=by rw [hx0]; simp
 rw [← hx0];have hk : uF57 x = some true:=by rw [hx0,ann_key]
 have hed:=ed_all l x w (by omega);have hlen : (edges l x w).length ≤ 20:=by
  have h1 : (l.flatMap (edB x w)).length ≤ 2 * l.length:=fm_len (f:=edB x w) (n:=2) l fun b _=>edB_len x w b;rw [edges,List.length_append,show ([w.From,w.To] : List Int).length = 2 from rfl];omega
 obtain ⟨E,hE0⟩ : ∃ E,E = Lib.compact (srtI (edges l x w)):=⟨_,rfl⟩;obtain ⟨hE,hm⟩:=once_isI (l:=edges l x w);rw [← hE0] at hE hm;have hEl : E.length ≤ 20:=by
  have h2 : (Lib.compact (srtI (edges l x w))).length ≤ (srtI (edges l x w)).length:=by
   unfold Lib.compact Lib.compactUpTo;rw [List.length_map];refine Nat.le_trans (List.length_filter_le _ _) ?_;simp
  have h3 : (srtI (edges l x w)).length = (edges l x w).length:=List.length_mergeSort _;rw [hE0]; omega
 have rng : ∀ n ∈ E,w.From ≤ n ∧ n ≤ w.To:=fun n hn=>by
  rcases mem_edges.1 ((hm n).1 hn) with rfl | rfl | ⟨_,_,_,_,h1,h2⟩ <;> omega
 have mF : w.From ∈ E:=(hm _).2 (mem_edges.2 (.inl rfl));have mT : w.To ∈ E:=(hm _).2 (mem_edges.2 (.inr (.inl rfl)));have hpos : 0 < E.length:=List.length_pos_of_mem mF;have h0 : E[0]? = some w.From:=by
  have hz : E[0]? = some E[0]:=by simp [hpos]
  have h1:=rng E[0] (List.getElem_mem _);obtain ⟨j,hj,he⟩:=List.getElem_of_mem mF;have : E[0] ≤ w.From:=by
   by_cases c : j = 0
   ·subst c; omega
   ·have:=List.pairwise_iff_getElem.1 hE 0 j hpos hj (by omega)
    omega
  rw [hz]; congr 1; omega
 have hlast : E[E.length - 1]? = some w.To:=by
  have hz : E[E.length - 1]? = some E[E.length - 1]:=by simp
  have h1:=rng E[E.length - 1] (List.getElem_mem _);obtain ⟨j,hj,he⟩:=List.getElem_of_mem mT;have : w.To ≤ E[E.length - 1]:=by
   by_cases c : j = E.length - 1
   ·subst c; omega
   ·have:=List.pairwise_iff_getElem.1 hE j (E.length - 1) hj (by omega) (by omega)
    omega
  rw [hz]; congr 1; omega
 obtain ⟨out,g1,g2⟩:=loopO_ind (step:=fun s : List uT0 × Int × uT0=>uF27b l x E s.1 s.2.1 s.2.2) (fun q=>∃ k : Nat,q.2.1 = (k : Int) ∧ ∃ e,E[k]? = some e ∧ TI l x w e k q.1 q.2.2) (fun out : List uT0=>out.length ≤ 1000 ∧ ∀ t,w.From ≤ t → t < w.To → Good l x out t) (fun q=>(E.length - q.2.1).toNat) (fun q hq=>by
  obtain ⟨out,i,last⟩:=q;obtain ⟨k,hk,e,he,hT⟩:=hq;simp only [] at hk hT;subst hk;have hkl:=(List.getElem?_eq_some_iff.1 he).1;by_cases hlt : k + 1 < E.length
  ·have hn : E[k + 1]? = some E[k + 1]:=by simp [hlt]
   obtain ⟨out',last',s1,s2⟩:=th_step (by omega) hx hE hm (by omega) he hn (rng e (List.mem_of_getElem? he)).1 (rng _ (List.getElem_mem _)).2 hT;exact .inr ⟨_,s1,⟨k + 1,by simp,_,hn,s2⟩,by (try simp only []); omega⟩
  ·refine .inl ⟨out,?_,by have:=hT.len; omega,?_⟩
   ·have wk : IntKind.wrap .i64 ((k : Int) + 1) = (k : Int) + 1:=w64 (by omega) (by omega)
    have hd : decide ((k : Int) + 1 < (E.length : Int)) = false:=decide_eq_false (by omega);show uF27b l x E out (k : Int) last = _;unfold uF27b;rw [wk,hd]; rfl
   ·have : k = E.length - 1:=by omega
    subst this;rw [hlast] at he;obtain rfl:=Option.some.inj he;exact hT.good) ([],0,noB) ⟨0,rfl,w.From,h0,⟨by simp,by simp,fun t t1 t2=>by omega,fun h=>absurd h.symm hx⟩⟩
 refine ⟨out,?_,g2⟩;have s1 : uF68 (edges l x w) = some (srtI (edges l x w)):=by unfold uF68; rw [if_pos (by omega)]
 have s2 : uF69 (srtI (edges l x w)) = some E:=by
  have h3 : (srtI (edges l x w)).length = (edges l x w).length:=List.length_mergeSort _;unfold uF69;rw [if_pos (by omega),hE0]
 have hw : (((decide (w.From < ((0 : Int)))) || (decide (w.From > w.To))) || (decide (w.To > ((345686400000 : Int))))) = false:=by
  rw [decide_eq_false (by omega),decide_eq_false (by omega),decide_eq_false (by omega)]; rfl
 unfold uF27c;unfold noB at g1;simp only [hcb,Option.bind_some,bne_self_eq_false,cond_false,hk,Bool.not_true,hw,hed,s1,s2,g1]
theorem law_PresenceTells (l : List Int) (hl : l.length ≤ 4611686018427387904) : uF5a l = some true:=by
 have o0 : SOk ⟨l,0⟩ 0:=⟨hl,by simp,by simp⟩;obtain ⟨n,e1,n1,n2⟩:=range_is ⟨l,0⟩ 0 9 0 o0 (by omega) (by omega) (by omega) (by omega);obtain ⟨s2,a,e2,a1,_,a3,o2⟩:=right_is ⟨l,0 + 1⟩ n _ o0.one (by omega) n1 n2;obtain ⟨p,e3,p1,p2⟩:=range_is s2 0 10 _ o2 (by omega) (by omega) (by omega) (by omega);obtain ⟨q,e4,q1,q2⟩:=range_is ⟨s2.L,s2.at_ + 1⟩ 10 120 _ o2.one (by omega) (by omega) (by omega) (by omega);obtain ⟨out,e5,l5,g5⟩:=through_is (w:=⟨p,q⟩) a1 a3 p1 (show p ≤ q by omega) (show q ≤ 1000 by omega);have o4:=o2.one.one;unfold uF5a;simp only [e1,e2,e3,e4,e5,Option.bind_some,bne_self_eq_false,cond_false];obtain ⟨r,h1,h2⟩:=loopO_ind (step:=fun s : Int × uT1=>uF5 (s2,a) (⟨s2.L,s2.at_ + 1⟩,p) (⟨s2.L,s2.at_ + 1 + 1⟩,q) (out,0) s.1 s.2) (fun z=>0 ≤ z.1 ∧ z.1 ≤ 5 ∧ SOk z.2 (5000 + z.1)) (fun r : Unit ⊕ Bool=>r = .inl ()) (fun z=>(5 - z.1).toNat) (fun z hz=>by
  obtain ⟨i,s⟩:=z;obtain ⟨z0,z1,z2⟩:=hz;simp only [] at z0 z1 z2;simp only [uF5];by_cases hlt : i < 5
  ·obtain ⟨t,f1,t1,t2⟩:=range_is s 0 130 _ z2 (by omega) (by omega) (by omega) (by omega)
   have wi : IntKind.wrap .i64 (i + 1) = i + 1:=w64 (by omega) (by omega);have o5 : SOk ⟨s.L,s.at_ + 1⟩ (5000 + (i + 1)):=z2.one.up (by omega);simp only [hlt,decide_true,cond_true,f1,wi,Option.bind_some];have go : SOk ⟨s.L,s.at_ + 1⟩ (5000 + (i + 1)):=o5;cases hc : (decide (t < p) || decide (t ≥ q)) with
   | true=>exact .inr ⟨_,rfl,⟨by (try simp only []); omega,by (try simp only []); omega,o5⟩,by (try simp only []); omega⟩
   | false =>
    simp only [Bool.or_eq_false_iff,decide_eq_false_iff_not] at hc;obtain ⟨b,f,g1,g2⟩:=g5 t (show p ≤ t by omega) (show t < q by omega);have hP : uF28 a [97,110,110] t = some (b,f,0):=by
     unfold uF28 uF59;have hm : (decide (t ≥ 0) && decide (t < 345686400000)) = true:=by
      rw [decide_eq_true (show t ≥ 0 by omega),decide_eq_true (by omega)]; rfl
     simp only [a3,Option.bind_some,bne_self_eq_false,cond_false,ann_key,Bool.not_true,bnd,hm,g1]
    have hI : uF29 out (fun a0=>uF30 a0 t) = some (idxI (fun o : uT0=>decide (o.At ≤ t) && decide (t < o.Until)) out) :=
     idxF_loop out (fun a0=>uF30 a0 t) _ (fun _ _=>rfl) (by omega)
    simp only [cond_false,hP,hI,Option.bind_some];rcases g2 with ⟨rfl,⟨y,hy,hyc⟩,hall⟩ | ⟨rfl,hno⟩
    ·have hpos : 0 ≤ idxI (fun o : uT0=>decide (o.At ≤ t) && decide (t < o.Until)) out:=by
      have:=idxI_any (fun o : uT0=>decide (o.At ≤ t) && decide (t < o.Until)) out
      have h2 : out.any (fun o : uT0=>decide (o.At ≤ t) && decide (t < o.Until)) = true:=List.any_eq_true.2 ⟨y,hy,by
       unfold cov at hyc;rw [decide_eq_true hyc.1,decide_eq_true hyc.2]; rfl⟩
      rw [h2] at this;simpa using this
     obtain ⟨j,hj,ej,pj,_⟩:=idxI_get hpos;simp only [Bool.and_eq_true,decide_eq_true_eq] at pj;obtain ⟨b1,b2,b3⟩:=hall out[j] (List.getElem_mem _) pj;rw [ej];have hge : decide ((j : Int) ≥ 0) = true:=decide_eq_true (by omega);simp only [hge,bne_self_eq_false,beq_self_eq_true,Bool.not_true,Bool.or_self,cond_false,cond_true,idx_at hj,Option.bind_some,b1,b2,b3];exact .inr ⟨_,rfl,⟨by (try simp only []); omega,by (try simp only []); omega,o5⟩,by (try simp only []); omega⟩
    ·have hneg : idxI (fun o : uT0=>decide (o.At ≤ t) && decide (t < o.Until)) out = -1:=idxI_neg' fun o ho=>by
      have:=hno o ho
      unfold cov at this;rw [← Bool.not_eq_true,Bool.and_eq_true,decide_eq_true_eq,decide_eq_true_eq];exact this
     rw [hneg];have hge : decide ((-1 : Int) ≥ 0) = false:=rfl;simp only [hge,bne_self_eq_false,beq_self_eq_true,Bool.not_true,Bool.or_self,cond_false,Option.bind_some];exact .inr ⟨_,rfl,⟨by (try simp only []); omega,by (try simp only []); omega,o5⟩,by (try simp only []); omega⟩
  ·exact .inl ⟨.inl (),by simp [hlt],rfl⟩) (0,⟨s2.L,s2.at_ + 1 + 1⟩) ⟨by simp,by simp,o4.up (by omega)⟩
 subst h2;rw [h1];rfl
end Go.Proofs.YtnpbglnfnhejiaaGreatDoor
