/-
  WordsFound: what is drawn.
-/
import Derived.Test.YtameabpbghichaaGreatDoorHM3Aa
import Derived.Test.YtameabpbghichaaGreatDoorHM3Absc
import Derived.Test.YtameabpbghichaaGreatDoorHM3Da
namespace Go.Proofs.YtameabpbghichaaGreatDoor
open Go Go.Abs
set_option maxRecDepth 100000
set_option maxHeartbeats 1000000
theorem below_is (x n : Int) (h1 : 1 ≤ n) (h2 : n ≤ 4611686018427387904) : uF80 x n = some (x % n):=by
 have hn : ¬ n < 1:=by omega
 have hn0 : n ≠ 0:=by omega
 have hlt : x.tmod n < n:=Int.tmod_lt_of_pos _ (by omega);have hgt : -n < x.tmod n:=by
  have:=Int.tmod_lt_of_pos (-x) (b:=n) (by omega)
  rw [Int.neg_tmod] at this; omega
 rw [emod_tmod x n h1];by_cases h : x.tmod n < 0
 ·simp (disch:=omega) [uF80,hn,grem,hn0,h,bnd,w64]
 ·simp [uF80,hn,grem,hn0,h,bnd]
def SOk (s : uT0) (k : Int) : Prop:=s.L.length ≤ 4611686018427387904 ∧ 0 ≤ s.at_ ∧ s.at_ ≤ k
theorem next_is (s : uT0) (n k : Int) (hs : SOk s k) (hk : k ≤ 4611686018427387904) (h1 : 1 ≤ n) (h2 : n ≤ 4611686018427387904) :
  ∃ r,uF31 s n = some (⟨s.L,s.at_ + 1⟩,r) ∧ 0 ≤ r ∧ r < n:=by
 obtain ⟨hl,ha,hb⟩:=hs;have e1 : IntKind.wrap .i64 (s.at_ + 1) = s.at_ + 1:=w64 (by omega) (by omega);have hm : ∀ x : Int,0 ≤ x % n ∧ x % n < n:=fun x=>⟨Int.emod_nonneg _ (by omega),Int.emod_lt_of_pos _ (by omega)⟩;unfold uF31;rw [e1];by_cases h0 : s.L.length = 0
 ·have hz : (s.L.length : Int) = 0:=by omega
  simp [hz,below_is _ _ h1 h2];exact hm _
 ·have hz : ¬ ((s.L.length : Int) = 0):=by omega
  have e2 : IntKind.wrap .i64 (s.at_ + 1 - 1) = s.at_:=by rw [w64] <;> omega
  have hi : 0 ≤ s.at_.tmod s.L.length ∧ s.at_.tmod s.L.length < s.L.length:=⟨Int.tmod_nonneg _ ha,Int.tmod_lt_of_pos _ (by omega)⟩;obtain ⟨x,hx,_⟩:=idx_of hi.1 hi.2;rw [e2];have hne : s.L ≠ []:=by rintro q; simp [q] at h0
  have hb : ((s.L.length : Int) == 0) = false:=by simp [hne]
  simp [hb,hne,grem,gquo,hx,below_is _ _ h1 h2,below_is _ 1073741824 (by omega) (by omega)];exact hm _
theorem SOk.one {s : uT0} {k : Int} (h : SOk s k) : SOk ⟨s.L,s.at_ + 1⟩ (k + 1):=by
 obtain ⟨a,b,c⟩:=h;exact ⟨a,by (try simp only []); omega,by (try simp only []); omega⟩
theorem flip_is (s : uT0) (n k : Int) (hs : SOk s k) (hk : k ≤ 1000000) (h1 : 1 ≤ n) (h2 : n ≤ 1000) : ∃ b,uF32 s n = some (⟨s.L,s.at_ + 1⟩,b):=by
 obtain ⟨r,e,r1,r2⟩:=next_is s n k hs (by omega) (by omega) (by omega);exact ⟨r == 0,by simp [uF32,e,bnd]⟩
end Go.Proofs.YtameabpbghichaaGreatDoor

namespace Go.Proofs.YtameabpbghichaaGreatDoor
open Go Go.Abs
theorem wl_irr : ∀ a : List (List UInt8),wless a a = false
 | []=>rfl
 | a :: x=>by simp [wless,wl_irr x,bl_irr a]
theorem wl_trans : ∀ {a b c : List (List UInt8)},wless a b = true → wless b c = true → wless a c = true
 | _,_,[],_,h=>by simp [wless] at h
 | _,[],_ :: _,h,_=>by simp [wless] at h
 | [],_ :: _,_ :: _,_,_=>by simp [wless]
 | a :: x,b :: y,c :: z,h1,h2=>by
  simp only [wless,Bool.or_eq_true,Bool.and_eq_true,beq_iff_eq] at h1 h2 ⊢
  rcases h1 with h1 | ⟨rfl,h1⟩
  ·rcases h2 with h2 | ⟨rfl,h2⟩
   ·exact .inl (bl_trans h1 h2)
   ·exact .inl h1
  ·rcases h2 with h2 | ⟨rfl,h2⟩
   ·exact .inl h2
   ·exact .inr ⟨rfl,wl_trans h1 h2⟩
theorem wl_app : ∀ {a b : List (List UInt8)} {c d : List (List UInt8)},a.length = b.length → wless a b = true → wless (a ++ c) (b ++ d) = true
 | [],[],_,_,_,h=>by simp [wless] at h
 | [],_ :: _,_,_,h,_=>by simp at h
 | _ :: _,[],_,_,h,_=>by simp at h
 | a :: x,b :: y,c,d,hl,h=>by
  simp only [wless,Bool.or_eq_true,Bool.and_eq_true,beq_iff_eq,List.cons_append] at h ⊢
  rcases h with h | ⟨rfl,h⟩
  ·exact .inl h
  ·exact .inr ⟨rfl,wl_app (by simpa using hl) h⟩
theorem ex_min (S : List (List UInt8) → Prop) : ∀ (L : List (List (List UInt8))),(∃ c ∈ L,S c) → ∃ c,S c ∧ ∀ b ∈ L,S b → wless b c = false
 | [],h=>by obtain ⟨c,h,_⟩:=h; simp at h
 | a :: L,h=>by
  by_cases hr : ∃ c ∈ L,S c
  ·obtain ⟨c,hc,hm⟩:=ex_min S L hr
   by_cases ha : S a ∧ wless a c = true
   ·refine ⟨a,ha.1,fun b hb hS=>?_⟩
    rcases List.mem_cons.1 hb with rfl | hb
    ·exact wl_irr _
    ·cases hw : wless b a with
     | false=>rfl
     | true =>
      have:=wl_trans hw ha.2
      rw [hm b hb hS] at this
      cases this
   ·refine ⟨c,hc,fun b hb hS=>?_⟩
    rcases List.mem_cons.1 hb with rfl | hb
    ·cases hw : wless b c with
     | false=>rfl
     | true=>exact absurd ⟨hS,hw⟩ ha
    ·exact hm b hb hS
  ·obtain ⟨c,hc,hS⟩:=h
   rcases List.mem_cons.1 hc with rfl | hc
   ·refine ⟨c,hS,fun b hb hSb=>?_⟩
    rcases List.mem_cons.1 hb with rfl | hb
    ·exact wl_irr _
    ·exact absurd ⟨b,hb,hSb⟩ hr
   ·exact absurd ⟨c,hc,hS⟩ hr

section
variable (s : List UInt8) (l : List (List UInt8))
def Chain : Nat → List (List UInt8) → Nat → Prop
  | k,[],e=>k = e
  | k,w :: c,e=>w ∈ l ∧ keyW w <+: s.drop k ∧ Chain (k + (keyW w).length) c e
variable {s l}
theorem chain_snoc {w : List UInt8} : ∀ {c : List (List UInt8)} {k e : Nat},Chain s l k (c ++ [w]) e ↔ ∃ k',Chain s l k c k' ∧ w ∈ l ∧ keyW w <+: s.drop k' ∧ e = k' + (keyW w).length
 | [],k,e=>by
  simp only [List.nil_append,Chain]
  constructor
  ·rintro ⟨h1,h2,h3⟩; exact ⟨k,rfl,h1,h2,h3.symm⟩
  ·rintro ⟨k',rfl,h1,h2,h3⟩; exact ⟨h1,h2,h3.symm⟩
 | x :: c,k,e=>by
  simp only [List.cons_append,Chain,chain_snoc (c:=c)]
  constructor
  ·rintro ⟨h1,h2,k',h3,h4⟩; exact ⟨k',⟨h1,h2,h3⟩,h4⟩
  ·rintro ⟨k',⟨h1,h2,h3⟩,h4⟩; exact ⟨h1,h2,k',h3,h4⟩
theorem chain_le : ∀ {c : List (List UInt8)} {k e : Nat},Chain s l k c e → k ≤ s.length → k ≤ e ∧ e ≤ s.length
 | [],k,e,h,hk=>by
  have h : k = e:=h
  omega
 | w :: c,k,e,h,hk=>by
  obtain ⟨h1,h2,h3⟩:=h
  have:=h2.length_le
  rw [List.length_drop] at this
  have:=chain_le h3 (by omega)
  omega
theorem ways_min : ∀ (r : Nat) (k : Nat),(∀ c,waysW s l r k = some c → (c.length = r ∧ Chain s l 0 c k) ∧ ∀ b,b.length = r → Chain s l 0 b k → wless b c = false) ∧ (waysW s l r k = none → ∀ c,c.length = r → ¬ Chain s l 0 c k)
 | 0,k=>by
  simp only [waysW]
  by_cases h : (k : Int) = 0
  ·obtain rfl : k = 0:=by omega
   rw [if_pos h]
   refine ⟨fun c e=>?_,fun e=>by cases e⟩
   obtain rfl:=Option.some.inj e
   refine ⟨⟨rfl,(rfl : (0 : Nat) = 0)⟩,fun b hb _=>?_⟩
   obtain rfl:=List.length_eq_zero_iff.1 hb
   rfl
  ·rw [if_neg h]
   refine ⟨fun c e=>(by cases e),fun _ c hc hch=>?_⟩
   obtain rfl:=List.length_eq_zero_iff.1 hc
   have : 0 = k:=hch
   omega
 | r + 1,k=>by
  have hmem : ∀ c,moreW s l (waysW s l r) k c → c.length = r + 1 ∧ Chain s l 0 c k:=by
   rintro c ⟨k',way,w,h1,h2,h3,h4,rfl⟩
   obtain ⟨⟨g1,g2⟩,_⟩:=(ways_min r k').1 way h1
   exact ⟨by rw [List.length_append,g1]; rfl,chain_snoc.2 ⟨k',g2,h2,h3,by omega⟩⟩
  -- what is left out is not less
  have hless : ∀ c,c.length = r + 1 → Chain s l 0 c k → ∃ d,moreW s l (waysW s l r) k d ∧ (d = c ∨ wless d c = true):=by
   intro c hc hch
   have hne : c ≠ []:=by rintro rfl; simp at hc
   obtain ⟨way,w,rfl⟩ : ∃ way w,c = way ++ [w]:=⟨c.dropLast,c.getLast hne,(List.dropLast_concat_getLast hne).symm⟩
   obtain ⟨k',h1,h2,h3,h4⟩:=chain_snoc.1 hch
   have hlen : way.length = r:=by simpa using hc
   cases hq : waysW s l r k' with
   | none=>exact absurd h1 ((ways_min r k').2 hq way hlen)
   | some m =>
    obtain ⟨⟨m1,m2⟩,m3⟩:=(ways_min r k').1 m hq
    refine ⟨m ++ [w],⟨k',m,w,hq,h2,h3,by omega,rfl⟩,?_⟩
    have:=m3 way hlen h1
    cases hw : wless m way with
    | false=>exact .inl (by rw [wless_tri hw this])
    | true=>exact .inr (wl_app (by rw [m1,hlen]) hw)
  have hfin : (∃ c,moreW s l (waysW s l r) k c) → ∃ c,minW (moreW s l (waysW s l r) k) c:=by
   rintro ⟨c,hc⟩
   let L:=(List.range (s.length + 1)).flatMap fun (k' : Nat)=>match waysW s l r (k' : Int) with
    | some way=>l.map fun w=>way ++ [w]
    | none=>[]
   have hL : ∀ c,moreW s l (waysW s l r) k c → c ∈ L:=by
    rintro c ⟨k',way,w,h1,h2,h3,h4,rfl⟩
    have hk' : k' ≤ s.length:=by
     obtain ⟨⟨_,g2⟩,_⟩:=(ways_min r k').1 way h1
     exact (chain_le g2 (Nat.zero_le _)).2
    refine List.mem_flatMap.2 ⟨k',List.mem_range.2 (by omega),?_⟩
    rw [h1]
    exact List.mem_map_of_mem h2
   obtain ⟨d,h1,h2⟩:=ex_min (moreW s l (waysW s l r) k) L ⟨c,hL c hc,hc⟩
   exact ⟨d,h1,fun b hb=>h2 b (hL b hb) hb⟩
  refine ⟨fun c e=>?_,fun e c hc hch=>?_⟩
  ·simp only [waysW] at e
   split at e
   ·rename_i hex
    have hmin:=hex.choose_spec
    rw [Option.some.inj e] at hmin
    refine ⟨hmem c hmin.1,fun b hb hbc=>?_⟩
    obtain ⟨d,hd,hd2⟩:=hless b hb hbc
    have h0:=hmin.2 d hd
    rcases hd2 with rfl | hd2
    ·exact h0
    ·cases hw : wless b c with
     | false=>rfl
     | true =>
      have:=wl_trans hd2 hw
      rw [h0] at this
      cases this
   ·cases e
  ·simp only [waysW] at e
   split at e
   ·cases e
   ·rename_i hex
    obtain ⟨d,hd,_⟩:=hless c hc hch
    exact hex (hfin ⟨d,hd⟩)
theorem go_none (hn : ∀ c,c ≠ [] → ¬ Chain s l 0 c s.length) : ∀ k n,goW s l k n = ([],false)
 | 0,_=>rfl
 | k + 1,n=>by
  simp only [goW]
  cases hq : waysW s l (n + 1) s.length with
  | none=>exact go_none hn k (n + 1)
  | some c =>
   obtain ⟨⟨h1,h2⟩,_⟩:=(ways_min (n + 1) s.length).1 c hq
   exact absurd h2 (hn c (by rintro rfl; simp at h1))
theorem go_some {c : List (List UInt8)} (hc : Chain s l 0 c s.length) (hshort : ∀ b,Chain s l 0 b s.length → c.length ≤ b.length) (hmin : ∀ b,b.length = c.length → Chain s l 0 b s.length → wless b c = false) : ∀ k n,n < c.length → c.length ≤ n + k → goW s l k n = (c,true)
 | 0,n,h1,h2=>by omega
 | k + 1,n,h1,h2=>by
  simp only [goW]
  cases hq : waysW s l (n + 1) s.length with
  | none =>
   have : n + 1 ≠ c.length:=fun e=>(ways_min (n + 1) s.length).2 hq c e.symm hc
   exact go_some hc hshort hmin k (n + 1) (by omega) (by omega)
  | some d =>
   obtain ⟨⟨g1,g2⟩,g3⟩:=(ways_min (n + 1) s.length).1 d hq
   have hl : c.length ≤ n + 1:=by rw [← g1]; exact hshort d g2
   have hl2 : c.length = n + 1:=by omega
   have : d = c:=wless_tri (hmin d (by rw [g1,hl2]) g2) (g3 c hl2 hc)
   rw [this]

structure Few (s : List UInt8) (l : List (List UInt8)) (f : Nat → Nat) : Prop where
  last : f s.length = 0
  le : ∀ k,k < s.length → ∀ w ∈ l,keyW w <+: s.drop k → f k ≤ f (k + (keyW w).length) + 1
  top : ∀ k,k < s.length → f k ≤ 31
  ex : ∀ k,k < s.length → f k < 31 → ∃ w ∈ l,keyW w <+: s.drop k ∧ f k = f (k + (keyW w).length) + 1
theorem few_le {f : Nat → Nat} (hf : Few s l f) (hne : ∀ w ∈ l,keyW w ≠ []) : ∀ {c : List (List UInt8)} {k : Nat},k ≤ s.length → Chain s l k c s.length → f k ≤ c.length
 | [],k,_,h=>by
  have h : k = s.length:=h
  rw [h,hf.last]
  exact Nat.zero_le _
 | w :: c,k,hk,h=>by
  obtain ⟨h1,h2,h3⟩:=h
  have hl:=h2.length_le
  rw [List.length_drop] at hl
  have : (keyW w).length ≠ 0:=fun e=>hne w h1 (List.length_eq_zero_iff.1 e)
  have:=hf.le k (by omega) w h1 h2
  have:=few_le hf hne (by omega) h3
  simp only [List.length_cons]
  omega
def Greedy (s : List UInt8) (l : List (List UInt8)) (f : Nat → Nat) : Nat → List (List UInt8) → Prop
  | k,[]=>k = s.length
  | k,w :: c=>(∃ i,∃ h : i < l.length,l[i] = w ∧ ∀ j (hj : j < i),¬ (keyW l[j] <+: s.drop k ∧ f (k + (keyW l[j]).length) + 1 = f k)) ∧ keyW w <+: s.drop k ∧ f (k + (keyW w).length) + 1 = f k ∧ Greedy s l f (k + (keyW w).length) c
theorem greedy_chain {f : Nat → Nat} : ∀ {c : List (List UInt8)} {k : Nat},Greedy s l f k c → Chain s l k c s.length
 | [],k,h=>h
 | w :: c,k,h=>by
  obtain ⟨⟨i,hi,rfl,_⟩,h2,_,h4⟩:=h
  exact ⟨List.getElem_mem hi,h2,greedy_chain h4⟩
theorem greedy_len {f : Nat → Nat} (hf : Few s l f) : ∀ {c : List (List UInt8)} {k : Nat},Greedy s l f k c → c.length = f k
 | [],k,h=>by
  have h : k = s.length:=h
  rw [h,hf.last]; rfl
 | w :: c,k,h=>by
  obtain ⟨_,_,h3,h4⟩:=h
  rw [← h3,← greedy_len hf h4]; rfl
theorem bl_asym {x y : List UInt8} (h : Op.bytesLess x y = true) : Op.bytesLess y x = false:=by
 cases h2 : Op.bytesLess y x with
 | false=>rfl
 | true =>
  have:=bl_trans h h2
  rw [bl_irr] at this;cases this
theorem greedy_min {f : Nat → Nat} (hf : Few s l f) (hne : ∀ w ∈ l,keyW w ≠ []) (hs : l.Pairwise fun a b=>Op.bytesLess a b = true) : ∀ {c b : List (List UInt8)} {k : Nat},k ≤ s.length → Greedy s l f k c → Chain s l k b s.length → b.length = f k → wless b c = false
 | [],b,k,hk,_,_,_=>by cases b <;> rfl
 | w :: c,[],k,hk,h,_,hl=>by
  obtain ⟨_,_,h3,_⟩:=h
  simp only [List.length_nil] at hl
  omega
 | w :: c,v :: b,k,hk,h,hb,hl=>by
  obtain ⟨⟨i,hi,rfl,hi2⟩,h2,h3,h4⟩:=h
  obtain ⟨b1,b2,b3⟩:=hb
  simp only [List.length_cons] at hl
  have hl2:=b2.length_le
  rw [List.length_drop] at hl2
  have hv0 : (keyW v).length ≠ 0:=fun e=>hne v b1 (List.length_eq_zero_iff.1 e)
  have hle:=hf.le k (by omega) v b1 b2
  have hfl:=few_le hf hne (by omega) b3
  have hv : f (k + (keyW v).length) + 1 = f k:=by omega
  obtain ⟨j,hj,rfl⟩:=List.getElem_of_mem b1
  have hji : i ≤ j:=by
   rcases Nat.lt_or_ge j i with q | q
   ·exact absurd ⟨b2,hv⟩ (hi2 j q)
   ·exact q
  simp only [wless,Bool.or_eq_false_iff,Bool.and_eq_false_iff,beq_eq_false_iff_ne]
  rcases Nat.lt_or_eq_of_le hji with q | q
  ·have:=List.pairwise_iff_getElem.1 hs i j hi hj q
   exact ⟨bl_asym this,.inl fun e=>by rw [e,bl_irr] at this; cases this⟩
  ·subst q
   exact ⟨bl_irr _,.inr (greedy_min hf hne hs (by omega) h4 b3 (by omega))⟩
end
def fL (n : Nat) (g : Nat → Nat) : List Int:=(List.range (n + 1)).map fun j=>(g j : Int)
def updN (g : Nat → Nat) (k v : Nat) : Nat → Nat:=fun j=>if j = k then v else g j
theorem fL_idx {n : Nat} {g : Nat → Nat} {j : Nat} (h : j ≤ n) : idx (fL n g) (j : Int) = some (g j : Int):=by
 rw [idx_nat];unfold fL;rw [List.getElem?_map,List.getElem?_range (by omega)];rfl
theorem fL_set {n : Nat} {g : Nat → Nat} {k v : Nat} : (fL n g).set k (v : Int) = fL n (updN g k v):=by
 apply List.ext_getElem?;intro i;unfold fL updN;by_cases h : i = k
 ·subst h
  by_cases hi : i < n + 1
  ·rw [List.getElem?_set_self (by simpa using hi),List.getElem?_map,List.getElem?_range hi]
   simp
  ·rw [List.getElem?_eq_none (by simp; omega),List.getElem?_eq_none (by simp; omega)]
 ·rw [List.getElem?_set_ne (Ne.symm h),List.getElem?_map,List.getElem?_map]
  by_cases hi : i < n + 1
  ·rw [List.getElem?_range hi]
   simp [h]
  ·rw [List.getElem?_eq_none (by simp; omega)]
   rfl
theorem sub_from {s : List UInt8} {k : Nat} (h : k ≤ s.length) : sub s (k : Int) (s.length : Int) = some (s.drop k):=by
 unfold sub;rw [if_pos ⟨by omega,by omega,by omega⟩];simp

structure WOk (s : List UInt8) (l : List (List UInt8)) : Prop where
  one : 1 ≤ s.length
  len : s.length ≤ 30
  many : l.length ≤ 500
  key : ∀ w ∈ l,uF36 w = some (keyW w,0)
  ne : ∀ w ∈ l,keyW w ≠ []
  short : ∀ w ∈ l,(keyW w).length ≤ 100
  sort : l.Pairwise fun a b=>Op.bytesLess a b = true

section
variable {s : List UInt8} {l : List (List UInt8)}
theorem keys_ok (h : WOk s l) : loopO (fun t : List (List UInt8) × Int=>uF8a l t.1 t.2) (List.replicate l.length [],(0 : Int)) = some (l.map keyW):=by
 have key:=loop_for (step:=fun t : List (List UInt8) × Int=>uF8a l t.1 t.2) (N:=l.length) (fun k=>((l.map keyW).take k ++ List.replicate (l.length - k) [],(k : Int))) (l.map keyW) (fun k hk=>?_) ?_
 ·simpa using key
 ·have hi : idx ((l.map keyW).take k ++ List.replicate (l.length - k) ([] : List UInt8)) (k : Int) = some []:=by
   rw [idx_nat,List.getElem?_append_right (by simp; omega)];rw [List.getElem?_replicate];simp;omega
  have hset : ((l.map keyW).take k ++ List.replicate (l.length - k) ([] : List UInt8)).set k (keyW l[k]) = (l.map keyW).take (k + 1) ++ List.replicate (l.length - (k + 1)) []:=by
   rw [List.set_append_right _ _ (by simp; omega)];have e : l.length - k = (l.length - (k + 1)) + 1:=by omega
   rw [e,List.replicate_succ];have e2 : k - ((l.map keyW).take k).length = 0:=by simp; omega
   rw [e2,List.set_cons_zero,List.take_succ_eq_append_getElem (by simpa using hk),List.getElem_map,List.append_assoc];rfl
  simp only [uF8a];rw [show decide ((k : Int) < (l.length : Int)) = true by simpa using hk,idx_at hk];simp only [cond_true,Option.bind_some];rw [h.key _ (List.getElem_mem hk)];simp only [Option.bind_some,hi,bnd,Int.toNat_natCast,hset];rw [w64 (by omega) (by have:=h.many; omega)];rfl
 ·simp only [uF8a]
  rw [show decide ((l.length : Int) < (l.length : Int)) = false by simp];simp only [cond_false,Nat.sub_self,List.replicate_zero,List.append_nil];rw [List.take_of_length_le (by simp)]

noncomputable def vst (s : List UInt8) (l : List (List UInt8)) (g : Nat → Nat) (k i : Nat) : Nat:=(l.take i).foldl (fun v w=>if keyW w <+: s.drop k then min v (g (k + (keyW w).length) + 1) else v) 31
theorem vst_succ {g : Nat → Nat} {k i : Nat} (hi : i < l.length) : vst s l g k (i + 1) = if keyW l[i] <+: s.drop k then min (vst s l g k i) (g (k + (keyW l[i]).length) + 1) else vst s l g k i:=by
 unfold vst;rw [List.take_succ_eq_append_getElem hi,List.foldl_append];rfl
theorem vst_facts {g : Nat → Nat} {k : Nat} : ∀ i,i ≤ l.length → vst s l g k i ≤ 31 ∧ (∀ j (hj : j < l.length),j < i → keyW l[j] <+: s.drop k → vst s l g k i ≤ g (k + (keyW l[j]).length) + 1) ∧ (vst s l g k i < 31 → ∃ j,∃ hj : j < l.length,keyW l[j] <+: s.drop k ∧ vst s l g k i = g (k + (keyW l[j]).length) + 1)
 | 0,_=>⟨by simp [vst],fun j hj h=>by omega,fun h=>by simp [vst] at h⟩
 | i + 1,hi=>by
  obtain ⟨h1,h2,h3⟩:=vst_facts (g:=g) (k:=k) i (by omega)
  have hi' : i < l.length:=by omega
  rw [vst_succ hi']
  by_cases hp : keyW l[i] <+: s.drop k
  ·rw [if_pos hp]
   refine ⟨by omega,fun j hj hlt hpj=>?_,fun hlt=>?_⟩
   ·rcases Nat.lt_or_eq_of_le (Nat.le_of_lt_succ hlt) with q | q
    ·have:=h2 j hj q hpj; omega
    ·subst q; omega
   ·rcases Nat.le_total (vst s l g k i) (g (k + (keyW l[i]).length) + 1) with q | q
    ·rw [Nat.min_eq_left q] at hlt ⊢
     exact h3 hlt
    ·rw [Nat.min_eq_right q] at hlt ⊢
     exact ⟨i,hi',hp,rfl⟩
  ·rw [if_neg hp]
   refine ⟨h1,fun j hj hlt hpj=>?_,h3⟩
   rcases Nat.lt_or_eq_of_le (Nat.le_of_lt_succ hlt) with q | q
   ·exact h2 j hj q hpj
   ·subst q; exact absurd hpj hp

theorem row_ok1 (h : WOk s l) {g : Nat → Nat} (hg : ∀ j,g j ≤ 31) {k : Nat} (hk : k < s.length) : loopO (fun t : List Int × Int=>uF8b s (l.map keyW) (k : Int) t.1 t.2) (fL s.length (updN g k 31),(0 : Int)) = some (fL s.length (updN g k (vst s l g k l.length))):=by
 refine loop_for (step:=fun t : List Int × Int=>uF8b s (l.map keyW) (k : Int) t.1 t.2) (N:=l.length) (fun i=>(fL s.length (updN g k (vst s l g k i)),(i : Int))) _ (fun i hi=>?_) ?_
 ·have hw:=List.getElem_mem hi
  have hv:=(vst_facts (s:=s) (l:=l) (g:=g) (k:=k) i (by omega)).1;simp only [uF8b];rw [show decide ((i : Int) < ((l.map keyW).length : Int)) = true by simpa using hi,idx_at (show i < (l.map keyW).length by simpa using hi)];simp only [cond_true,Option.bind_some,List.getElem_map];rw [sub_from (by omega : k ≤ s.length)];simp only [Option.bind_some,pre_eq];rw [vst_succ hi];have hwr : IntKind.wrap .i64 ((i : Int) + 1) = ((i + 1 : Nat) : Int):=by rw [w64 (by omega) (by have:=h.many; omega)]; rfl
  by_cases hp : keyW l[i] <+: s.drop k
  ·have hl:=hp.length_le
   rw [List.length_drop] at hl;have h0 : (keyW l[i]).length ≠ 0:=fun e=>h.ne _ hw (List.length_eq_zero_iff.1 e);rw [if_pos hp];simp only [hp,decide_true,cond_true];rw [fL_idx (by omega)];simp only [Option.bind_some];have hlen:=h.len;have e1 : IntKind.wrap .i64 ((k : Int) + ((keyW l[i]).length : Int)) = ((k + (keyW l[i]).length : Nat) : Int):=by rw [w64 (by omega) (by omega)]; rfl
   rw [e1,fL_idx (by omega)];simp only [Option.bind_some];have e2 : updN g k (vst s l g k i) k = vst s l g k i:=by simp [updN]
   have e3 : updN g k (vst s l g k i) (k + (keyW l[i]).length) = g (k + (keyW l[i]).length):=by unfold updN; rw [if_neg (by omega)]
   rw [e2,e3];have hgb:=hg (k + (keyW l[i]).length);have e4 : gmin (vst s l g k i : Int) (IntKind.wrap .i64 ((g (k + (keyW l[i]).length) : Int) + 1)) = ((min (vst s l g k i) (g (k + (keyW l[i]).length) + 1) : Nat) : Int):=by
    rw [w64 (by omega) (by omega)];unfold gmin;omega
   simp only [bnd,Int.toNat_natCast,e4,hwr,fL_set];have e5 : updN (updN g k (vst s l g k i)) k (min (vst s l g k i) (g (k + (keyW l[i]).length) + 1)) = updN g k (min (vst s l g k i) (g (k + (keyW l[i]).length) + 1)):=by
    funext j; unfold updN; split <;> rfl
   rw [e5]
  ·rw [if_neg hp]
   simp only [hp,decide_false,cond_false,hwr]
 ·simp only [uF8b]
  rw [show decide ((l.length : Int) < ((l.map keyW).length : Int)) = false by simp];simp

theorem few_ok (h : WOk s l) : ∃ g,Few s l g ∧ (∀ j,g j ≤ 31) ∧ loopO (fun t : List Int × Int=>uF8d s (l.map keyW) t.1 t.2) (List.replicate (s.length + 1) (0 : Int),(s.length : Int) - 1) = some (fL s.length g):=by
 have key:=loopO_ind (step:=fun t : List Int × Int=>uF8d s (l.map keyW) t.1 t.2)
  (P:=fun t=>∃ (g : Nat → Nat) (m : Nat),t = (fL s.length g,(m : Int) - 1) ∧ m ≤ s.length ∧ (∀ j,g j ≤ 31) ∧ g s.length = 0 ∧ ∀ k,m ≤ k → k < s.length → (∀ w ∈ l,keyW w <+: s.drop k → g k ≤ g (k + (keyW w).length) + 1) ∧ (g k < 31 → ∃ w ∈ l,keyW w <+: s.drop k ∧ g k = g (k + (keyW w).length) + 1))
  (Q:=fun e=>∃ g,Few s l g ∧ (∀ j,g j ≤ 31) ∧ e = fL s.length g) (m:=fun t=>(t.2 + 1).toNat) ?_ (List.replicate (s.length + 1) (0 : Int),(s.length : Int) - 1) ⟨fun _=>0,s.length,?_,Nat.le_refl _,fun _=>Nat.zero_le _,rfl,fun k h1 h2=>by omega⟩
 ·obtain ⟨e,h1,g,h2,h3,rfl⟩:=key
  exact ⟨g,h2,h3,h1⟩
 ·rintro ⟨w,at_⟩ ⟨g,m,he,hm,hg,h0,hF⟩
  simp only [Prod.mk.injEq] at he;obtain ⟨rfl,rfl⟩:=he;simp only [uF8d];cases m with
  | zero =>
   left;refine ⟨fL s.length g,?_,g,⟨h0,fun k hk w hw hp=>(hF k (Nat.zero_le _) hk).1 w hw hp,fun k hk=>hg k,fun k hk hlt=>(hF k (Nat.zero_le _) hk).2 hlt⟩,hg,rfl⟩;rfl
  | succ m =>
   right;have hm' : m < s.length:=by omega
   have e0 : ((m + 1 : Nat) : Int) - 1 = (m : Int):=by omega
   rw [e0,show decide ((m : Int) ≥ 0) = true by simp];simp only [cond_true];rw [fL_idx (by omega)];simp only [Option.bind_some,bnd,Int.toNat_natCast];have e31 : (31 : Int) = ((31 : Nat) : Int):=rfl;rw [e31,fL_set,row_ok1 h hg hm'];simp only [Option.bind_some];have hlen:=h.len;rw [w64 (by omega) (by omega)];refine ⟨_,rfl,⟨updN g m (vst s l g m l.length),m,rfl,by omega,fun j=>?_,?_,fun k hk hk2=>?_⟩,by simp⟩
   ·unfold updN
    split
    ·exact (vst_facts l.length (Nat.le_refl _)).1
    ·exact hg j
   ·unfold updN; rw [if_neg (by omega)]; exact h0
   ·have hbig : ∀ w ∈ l,updN g m (vst s l g m l.length) (k + (keyW w).length) = g (k + (keyW w).length):=fun w hw=>by
     have : (keyW w).length ≠ 0:=fun e=>h.ne w hw (List.length_eq_zero_iff.1 e);unfold updN; rw [if_neg (by omega)]
    by_cases hkm : k = m
    ·subst hkm
     have e : updN g k (vst s l g k l.length) k = vst s l g k l.length:=by simp [updN]
     rw [e];obtain ⟨_,v2,v3⟩:=vst_facts (s:=s) (l:=l) (g:=g) (k:=k) l.length (Nat.le_refl _);refine ⟨fun w hw hp=>?_,fun hlt=>?_⟩
     ·rw [hbig w hw]
      obtain ⟨j,hj,rfl⟩:=List.getElem_of_mem hw;exact v2 j hj hj hp
     ·obtain ⟨j,hj,hp,hv⟩:=v3 hlt
      exact ⟨l[j],List.getElem_mem hj,hp,by rw [hbig _ (List.getElem_mem hj)]; exact hv⟩
    ·have e : updN g m (vst s l g m l.length) k = g k:=by unfold updN; rw [if_neg hkm]
     rw [e];obtain ⟨v2,v3⟩:=hF k (by omega) hk2;refine ⟨fun w hw hp=>by rw [hbig w hw]; exact v2 w hw hp,fun hlt=>?_⟩;obtain ⟨w,hw,hp,hv⟩:=v3 hlt;exact ⟨w,hw,hp,by rw [hbig w hw]; exact hv⟩
 ·congr 1
  unfold fL;apply List.ext_getElem?;intro i;rw [List.getElem?_replicate,List.getElem?_map];by_cases hi : i < s.length + 1
  ·rw [if_pos hi,List.getElem?_range hi]; rfl
  ·rw [if_neg hi,List.getElem?_eq_none (by simp; omega)]; rfl

theorem step_ok (h : WOk s l) {g : Nat → Nat} (hg : ∀ j,g j ≤ 31) (hf : Few s l g) {k : Nat} (hk : k < s.length) (hlt : g k < 31) {out : List (List UInt8)} (ho : out.length ≤ 100) :
  ∃ i,∃ hi : i < l.length,(∀ j (hj : j < i),¬ (keyW l[j] <+: s.drop k ∧ g (k + (keyW l[j]).length) + 1 = g k)) ∧ keyW l[i] <+: s.drop k ∧ g (k + (keyW l[i]).length) + 1 = g k ∧
   loopO (fun t : List (List UInt8) × Int × Int=>uF8e s l (l.map keyW) (fL s.length g) t.1 t.2.1 t.2.2) (out,(k : Int),(0 : Int)) = some (out ++ [l[i]],((k + (keyW l[i]).length : Nat) : Int)):=by
 have hlen:=h.len;have key:=loopO_ind (step:=fun t : List (List UInt8) × Int × Int=>uF8e s l (l.map keyW) (fL s.length g) t.1 t.2.1 t.2.2)
  (P:=fun t=>∃ i : Nat,t = (out,(k : Int),(i : Int)) ∧ i ≤ l.length ∧ ∀ j (hj : j < l.length),j < i → ¬ (keyW l[j] <+: s.drop k ∧ g (k + (keyW l[j]).length) + 1 = g k))
  (Q:=fun e=>∃ i,∃ hi : i < l.length,(∀ j (hj : j < i),¬ (keyW l[j] <+: s.drop k ∧ g (k + (keyW l[j]).length) + 1 = g k)) ∧ keyW l[i] <+: s.drop k ∧ g (k + (keyW l[i]).length) + 1 = g k ∧ e = (out ++ [l[i]],((k + (keyW l[i]).length : Nat) : Int)))
  (m:=fun t=>l.length - t.2.2.toNat) ?_ (out,(k : Int),(0 : Int)) ⟨0,rfl,Nat.zero_le _,fun j hj h=>by omega⟩
 ·obtain ⟨e,h1,i,hi,h2,h3,h4,rfl⟩:=key
  exact ⟨i,hi,h2,h3,h4,h1⟩
 ·rintro ⟨o,a,i'⟩ ⟨i,he,hil,hno⟩
  simp only [Prod.mk.injEq] at he;obtain ⟨rfl,rfl,rfl⟩:=he;simp only [uF8e];by_cases hi : i < l.length
  ·rw [show decide ((i : Int) < ((l.map keyW).length : Int)) = true by simpa using hi,idx_at (show i < (l.map keyW).length by simpa using hi)]
   simp only [cond_true,Option.bind_some,List.getElem_map];rw [sub_from (by omega : k ≤ s.length)];simp only [Option.bind_some,pre_eq];have hwr : IntKind.wrap .i64 ((i : Int) + 1) = ((i + 1 : Nat) : Int):=by rw [w64 (by omega) (by have:=h.many; omega)]; rfl
   have next : ¬ (keyW l[i] <+: s.drop k ∧ g (k + (keyW l[i]).length) + 1 = g k) → ∀ j (hj : j < l.length),j < i + 1 → ¬ (keyW l[j] <+: s.drop k ∧ g (k + (keyW l[j]).length) + 1 = g k):=fun hq j hj hlt2=>by
    rcases Nat.lt_or_eq_of_le (Nat.le_of_lt_succ hlt2) with q | q
    ·exact hno j hj q
    ·subst q; exact hq
   by_cases hp : keyW l[i] <+: s.drop k
   ·have hl:=hp.length_le
    rw [List.length_drop] at hl;simp only [hp,decide_true,cond_true];have e1 : IntKind.wrap .i64 ((k : Int) + ((keyW l[i]).length : Int)) = ((k + (keyW l[i]).length : Nat) : Int):=by rw [w64 (by omega) (by omega)]; rfl
    rw [e1,fL_idx (by omega)];simp only [Option.bind_some];rw [fL_idx (by omega)];simp only [Option.bind_some];have hgb:=hg (k + (keyW l[i]).length);rw [w64 (by omega) (by omega)];by_cases hq : g (k + (keyW l[i]).length) + 1 = g k
    ·left
     have e2 : (((g (k + (keyW l[i]).length) : Int) + 1) == (g k : Int)) = true:=by simp; omega
     rw [e2];simp only [cond_true];rw [idx_at hi];simp only [Option.bind_some];rw [app_of (by simp; omega) (by simp; omega)];simp only [Option.bind_some,bnd,e1];exact ⟨_,rfl,i,hi,fun j hj=>hno j (by omega) hj,hp,hq,rfl⟩
    ·right
     have e2 : (((g (k + (keyW l[i]).length) : Int) + 1) == (g k : Int)) = false:=by simp; omega
     rw [e2];simp only [cond_false,hwr];exact ⟨_,rfl,⟨i + 1,rfl,by omega,next fun q=>hq q.2⟩,by simp; omega⟩
   ·right
    simp only [hp,decide_false,cond_false,Option.bind_some,hwr];exact ⟨_,rfl,⟨i + 1,rfl,by omega,next fun q=>hp q.1⟩,by simp; omega⟩
  ·exfalso
   obtain ⟨w,hw,hp,hv⟩:=hf.ex k hk hlt;obtain ⟨j,hj,rfl⟩:=List.getElem_of_mem hw;exact hno j hj (by omega) ⟨hp,hv.symm⟩

theorem greedy_ok (h : WOk s l) {g : Nat → Nat} (hg : ∀ j,g j ≤ 31) (hf : Few s l g) (h0 : g 0 < 31) :
  ∃ c,Greedy s l g 0 c ∧ loopO (fun t : List (List UInt8) × Int=>uF8c s l (l.map keyW) (fL s.length g) t.1 t.2) (([] : List (List UInt8)),(0 : Int)) = some c:=by
 have key:=loopO_ind (step:=fun t : List (List UInt8) × Int=>uF8c s l (l.map keyW) (fL s.length g) t.1 t.2)
  (P:=fun t=>∃ (out : List (List UInt8)) (k : Nat),t = (out,(k : Int)) ∧ k ≤ s.length ∧ g k < 31 ∧ out.length + g k = g 0 ∧ ∀ c,Greedy s l g k c → Greedy s l g 0 (out ++ c))
  (Q:=fun e=>Greedy s l g 0 e) (m:=fun t=>s.length - t.2.toNat) ?_ (([] : List (List UInt8)),(0 : Int)) ⟨[],0,rfl,Nat.zero_le _,h0,by simp,fun c hc=>hc⟩
 ·obtain ⟨c,h1,h2⟩:=key
  exact ⟨c,h2,h1⟩
 ·rintro ⟨o,a⟩ ⟨out,k,he,hk,hlt,hl,hG⟩
  simp only [Prod.mk.injEq] at he;obtain ⟨rfl,rfl⟩:=he;simp only [uF8c];by_cases hk2 : k < s.length
  ·right
   rw [show decide ((k : Int) < (s.length : Int)) = true by simpa using hk2];simp only [cond_true];obtain ⟨i,hi,h1,h2,h3,h4⟩:=step_ok h hg hf hk2 hlt (out:=o) (by omega);rw [h4];have hl2:=h2.length_le;rw [List.length_drop] at hl2;have hne : (keyW l[i]).length ≠ 0:=fun e=>h.ne _ (List.getElem_mem hi) (List.length_eq_zero_iff.1 e);refine ⟨_,rfl,⟨o ++ [l[i]],k + (keyW l[i]).length,rfl,by omega,by omega,by simp; omega,fun c hc=>?_⟩,by simp; omega⟩;rw [List.append_assoc];exact hG _ ⟨⟨i,hi,rfl,h1⟩,h2,h3,hc⟩
  ·left
   rw [show decide ((k : Int) < (s.length : Int)) = false by simpa using hk2];refine ⟨o,rfl,?_⟩
   have:=hG [] (by show k = s.length; omega)
   simpa using this

theorem chain_len (h : WOk s l) : ∀ {c : List (List UInt8)} {k e : Nat},Chain s l k c e → k + c.length ≤ e
 | [],k,e,hc=>by
  have hc : k = e:=hc
  simp only [List.length_nil]; omega
 | w :: c,k,e,hc=>by
  obtain ⟨h1,h2,h3⟩:=hc
  have:=chain_len h h3
  have : (keyW w).length ≠ 0:=fun e=>h.ne w h1 (List.length_eq_zero_iff.1 e)
  simp only [List.length_cons]
  omega
theorem words_agree (h : WOk s l) (h34 : uF34 s 1 30 = some true) (h35 : uF35a l = some 0) (hg : guardW s l) : ∃ x b,uF8 s l = some (x,b,0) ∧ uF11 s l = some (x,b) ∧ x.length ≤ 100:=by
 obtain ⟨g,hf,hgb,hloop⟩:=few_ok h;have hlen:=h.len;have hone:=h.one;have hm1 : mkN 16 (l.length : Int) ([] : List UInt8) = some (List.replicate l.length []):=by
  rw [mkN_of (by omega) (by have:=h.many; omega) (by have:=h.many; omega)]; simp
 have hm2 : mkN 8 (IntKind.wrap .i64 ((s.length : Int) + 1)) (0 : Int) = some (List.replicate (s.length + 1) 0):=by
  rw [w64 (by omega) (by omega),mkN_of (by omega) (by omega) (by omega)];rfl
 have hm3 : IntKind.wrap .i64 ((s.length : Int) - 1) = (s.length : Int) - 1:=w64 (by omega) (by omega);have h11 : uF11 s l = some (goW s l s.length 0):=by unfold uF11; rw [if_pos hg]
 have e8 : uF8 s l = bif decide ((g 0 : Int) ≥ 31) then some ([],false,0) else (loopO (fun t : List (List UInt8) × Int=>uF8c s l (l.map keyW) (fL s.length g) t.1 t.2) (([] : List (List UInt8)),(0 : Int))).bind fun y=>some (y,true,0):=by
  have i0 : idx (fL s.length g) (0 : Int) = some (g 0 : Int):=fL_idx (j:=0) (Nat.zero_le _);unfold uF8;rw [h34];simp only [Option.bind_some,Bool.not_true,cond_false];rw [h35];simp only [Option.bind_some,bne_self_eq_false,cond_false];rw [hm1];simp only [Option.bind_some];rw [keys_ok h];simp only [Option.bind_some];rw [hm2];simp only [Option.bind_some,bnd,hm3];rw [hloop];simp only [Option.bind_some];rw [i0];rfl
 rw [h11];have hnil : ∀ c,Chain s l 0 c s.length → c ≠ []:=by
  rintro c hc rfl;have hc : 0 = s.length:=hc;omega
 by_cases h0 : g 0 < 31
 ·obtain ⟨c,hc,hl⟩:=greedy_ok h hgb hf h0
  have hch:=greedy_chain hc;have hcl:=greedy_len hf hc;have hcb:=chain_len h hch;refine ⟨c,true,?_,?_,by omega⟩
  ·rw [e8,show decide ((g 0 : Int) ≥ 31) = false by simp; omega,hl]
   rfl
  ·congr 1
   have hpos : 0 < c.length:=List.length_pos_iff.2 (hnil c hch);exact go_some hch (fun b hb=>by rw [hcl]; exact few_le hf h.ne (Nat.zero_le _) hb) (fun b hb hbc=>greedy_min hf h.ne h.sort (Nat.zero_le _) hc hbc (by rw [hb,hcl])) s.length 0 hpos (by omega)
 ·refine ⟨[],false,?_,?_,by simp⟩
  ·rw [e8,show decide ((g 0 : Int) ≥ 31) = true by simp; omega]
   rfl
  ·congr 1
   refine go_none (fun c _ hc=>?_) s.length 0
   have:=few_le hf h.ne (Nat.zero_le _) hc
   have:=chain_len h hc
   omega
end
end Go.Proofs.YtameabpbghichaaGreatDoor

namespace Go.Proofs.YtameabpbghichaaGreatDoor
open Go Go.Abs
set_option maxRecDepth 100000
theorem some_in (s : uT0) (l : List (List UInt8)) (k : Int) (hs : SOk s k) (hk : k ≤ 1000000) (hl : 0 < l.length) (hl2 : l.length ≤ 1000) : ∃ r,uF6 s l = some (⟨s.L,s.at_ + 1⟩,r) ∧ r ∈ l:=by
 obtain ⟨r,e,r1,r2⟩:=next_is s l.length k hs (by omega) (by omega) (by omega);obtain ⟨x,hx,hm⟩:=idx_of r1 r2;exact ⟨x,by simp [uF6,bnd,e,hx],hm⟩
def ten : List (List UInt8):=[[97],[97,100],[98,101],[98,101,100],[99,97,98],[100],[100,97,100],[102,97,100],[102,101,100],[109]]
def zz16 : List UInt8:=Lib.repeatL [122] 16
def extra : List (List UInt8):=[[],[65],[122,122],[97],zz16]
def inW (w : List UInt8) : Prop:=w ∈ ten ∨ w ∈ extra
theorem draw_loop (st : uT0) (k : Int) (hs : SOk st k) (hk : k ≤ 1000) : ∃ st' ws,loopO (fun s : List (List UInt8) × Int × uT0=>uF7 s.1 s.2.1 s.2.2) ((([] : List (List UInt8)),(0 : Int),st)) = some (ws,st') ∧ SOk st' (k + 10) ∧ ws.length ≤ 10 ∧ ∀ w ∈ ws,w ∈ ten:=by
 have key:=loopO_ind (step:=fun s : List (List UInt8) × Int × uT0=>uF7 s.1 s.2.1 s.2.2)
  (P:=fun s=>∃ i : Nat,s.2.1 = (i : Int) ∧ i ≤ 10 ∧ SOk s.2.2 (k + i) ∧ s.1.length ≤ i ∧ ∀ w ∈ s.1,w ∈ ten)
  (Q:=fun e=>SOk e.2 (k + 10) ∧ e.1.length ≤ 10 ∧ ∀ w ∈ e.1,w ∈ ten) (m:=fun s=>10 - s.2.1.toNat) ?_ (([] : List (List UInt8)),(0 : Int),st) ⟨0,rfl,by omega,by simpa using hs,by simp,by simp⟩
 ·obtain ⟨e,h1,h2,h3,h4⟩:=key
  exact ⟨e.2,e.1,h1,h2,h3,h4⟩
 ·rintro ⟨ws,i',s⟩ ⟨i,rfl,hi,hS,hl,hw⟩
  simp only at hS hl hw;show (∃ e,uF7 ws (i : Int) s = _ ∧ _) ∨ ∃ s',uF7 ws (i : Int) s = _ ∧ _;by_cases h10 : i < 10
  ·right
   have hit : i < ten.length:=h10;obtain ⟨b,hb⟩:=flip_is s 2 (k + i) hS (by omega) (by omega) (by omega);have hid : idx ten (i : Int) = some ten[i]:=idx_at hit;have hwr : IntKind.wrap .i64 ((i : Int) + 1) = ((i + 1 : Nat) : Int):=by rw [w64 (by omega) (by omega)]; rfl
   have hone:=hS.one;have e : uF7 ws (i : Int) s = bif b then some (.inl (ws ++ [ten[i]],((i + 1 : Nat) : Int),⟨s.L,s.at_ + 1⟩)) else some (.inl (ws,((i + 1 : Nat) : Int),⟨s.L,s.at_ + 1⟩)):=by
    have e0 : uF7 ws (i : Int) s = bif decide ((i : Int) < (ten.length : Int)) then ((idx ten (i : Int)).bind fun y33=>(uF32 s ((2 : Int))).bind fun y39=>bif y39.2 then ((app 16 ws (([y33] : List (List UInt8)))).bind fun y59=>some (.inl ((y59,(IntKind.wrap .i64 ((i : Int) + ((1 : Int)))),y39.1)))) else (some (.inl ((ws,(IntKind.wrap .i64 ((i : Int) + ((1 : Int)))),y39.1))))) else (some (.inr ((ws,s)))):=rfl;rw [e0,show decide ((i : Int) < (ten.length : Int)) = true by simpa using hit,hid];simp only [cond_true,Option.bind_some];rw [hb];simp only [Option.bind_some,hwr];rw [app_of (by simp; omega) (by simp; omega)];rfl
   rw [e];cases b with
   | true=>exact ⟨_,rfl,⟨i + 1,rfl,by omega,by have:=hone; rw [Int.add_assoc] at this; exact this,by simp; omega,fun w hw'=>by
     rcases List.mem_append.1 hw' with h | h
     ·exact hw w h
     ·obtain rfl : w = ten[i]:=by simpa using h
      exact List.getElem_mem _⟩,by simp; omega⟩
   | false=>exact ⟨_,rfl,⟨i + 1,rfl,by omega,by have:=hone; rw [Int.add_assoc] at this; exact this,by show ws.length ≤ i + 1; omega,hw⟩,by simp; omega⟩
  ·left
   obtain rfl : i = 10:=by omega
   exact ⟨(ws,s),rfl,hS,hl,hw⟩
theorem draw_words (st : uT0) (k : Int) (hs : SOk st k) (hk : k ≤ 1000) : ∃ st' ws,uF7a st = some (st',ws) ∧ ws.length ≤ 11 ∧ ∀ w ∈ ws,inW w:=by
 obtain ⟨s1,ws,h1,h2,h3,h4⟩:=draw_loop st k hs hk;obtain ⟨b,hb⟩:=flip_is s1 12 (k + 10) h2 (by omega) (by omega) (by omega);have h5:=h2.one;have hrep : uF33 (([122] : List UInt8)) ((16 : Int)) = some zz16:=by rfl
 unfold uF7a;rw [h1];simp only [Option.bind_some];rw [hb];simp only [Option.bind_some];cases b with
 | false=>exact ⟨_,ws,rfl,by omega,fun w hw=>.inl (h4 w hw)⟩
 | true =>
  simp only [cond_true];rw [hrep];simp only [Option.bind_some];obtain ⟨x,hx,hm⟩:=some_in ⟨s1.L,s1.at_ + 1⟩ extra _ h5 (by omega) (by decide) (by decide);have hx' : uF6 ⟨s1.L,s1.at_ + 1⟩ [[],[65],[122,122],[97],zz16] = _:=hx;rw [hx'];simp only [Option.bind_some];rw [app_of (by simp; omega) (by simp; omega)];refine ⟨_,_,rfl,by simp; omega,fun w hw=>?_⟩;rcases List.mem_append.1 hw with h | h
  ·exact .inl (h4 w h)
  ·obtain rfl : w = x:=by simpa using h
   exact .inr hm

theorem step_eq (x : List (List UInt8)) (k : Int) : uF9a x k = uF35 x k:=by
 unfold uF9a uF35;cases decide (k < (List.length x : Int)) with
 | false=>rfl
 | true =>
  simp only [cond_true];cases idx x k with
  | none=>rfl
  | some w =>
   simp only [Option.bind_some,uF39,bnd];have e : (!(decide ((1 : Int) ≤ (w.length : Int)) && decide ((w.length : Int) ≤ 15))) = (decide ((w.length : Int) < 1) || decide ((w.length : Int) > 15)):=by
    rw [Bool.eq_iff_iff];simp only [Bool.not_eq_true',Bool.and_eq_false_iff,decide_eq_false_iff_not,Bool.or_eq_true,decide_eq_true_eq];omega
   rw [e]
def bad (w : List UInt8) : Bool:=w == [] || w == [65] || w == zz16
theorem bad_ok {w : List UInt8} (h : inW w) : (bif ((decide (((List.length w : Int)) < ((1 : Int)))) || (decide (((List.length w : Int)) > ((15 : Int))))) then (some true) else ((uF40 w (([97,98,99,100,101,102,103,104,105,106,107,108,109,110,111,112,113,114,115,116,117,118,119,120,121,122] : List UInt8))).bind fun y58=>some ((!(y58 == (([] : List UInt8))))))) = some (bad w):=by
 unfold inW ten extra at h;simp only [List.mem_cons,List.not_mem_nil,or_false] at h;rcases h with (rfl | rfl | rfl | rfl | rfl | rfl | rfl | rfl | rfl | rfl) | (rfl | rfl | rfl | rfl | rfl) <;> rfl
theorem check_ok {x : List (List UInt8)} (hw : ∀ w ∈ x,inW w) (hl : x.length ≤ 400) : ∃ e,uF35a x = some e ∧ (e = 0 → (∀ w ∈ x,bad w = false) ∧ x.Pairwise fun a b=>Op.bytesLess a b = true):=by
 have key:=loopO_ind (step:=fun s : Int=>uF35 x s)
  (P:=fun s=>∃ i : Nat,s = (i : Int) ∧ i ≤ x.length ∧ (∀ j (hj : j < x.length),j < i → bad x[j] = false ∧ ∀ (h0 : 0 < j),Op.bytesLess (x[j - 1]'(by omega)) x[j] = true))
  (Q:=fun e=>match e with
   | .inl _=>∀ j (hj : j < x.length),bad x[j] = false ∧ ∀ (h0 : 0 < j),Op.bytesLess (x[j - 1]'(by omega)) x[j] = true
   | .inr e=>e ≠ 0) (m:=fun s=>x.length - s.toNat) ?_ (0 : Int) ⟨0,rfl,Nat.zero_le _,fun j hj h=>by omega⟩
 ·obtain ⟨e,h1,h2⟩:=key
  have h35 : uF35a x = lret (some e) (fun _=>some ((0 : Int))) (fun r=>some r):=by
   unfold uF35a;rw [show decide ((x.length : Int) > 500) = false by simp; omega,h1];rfl
  rw [h35];cases e with
  | inr e=>exact ⟨e,rfl,fun q=>absurd q h2⟩
  | inl u =>
   refine ⟨0,rfl,fun _=>⟨fun w hw'=>?_,?_⟩⟩
   ·obtain ⟨j,hj,rfl⟩:=List.getElem_of_mem hw'
    exact (h2 j hj).1
   ·rw [List.pairwise_iff_getElem]
    have chain : ∀ (d i : Nat) (hj : i + d + 1 < x.length),Op.bytesLess (x[i]'(by omega)) x[i + d + 1] = true:=by
     intro d;induction d with
     | zero=>intro i hj; exact (h2 (i + 1) hj).2 (by omega)
     | succ d ih=>intro i hj; exact bl_trans (ih i (by omega)) ((h2 (i + (d + 1) + 1) hj).2 (by omega))
    intro i j hi hj hij;obtain ⟨d,rfl⟩ : ∃ d,j = i + d + 1:=⟨j - i - 1,by omega⟩;exact chain d i hj
 ·rintro _ ⟨i,rfl,hi,hP⟩
  show (∃ e,uF35 x (i : Int) = _ ∧ _) ∨ ∃ s',uF35 x (i : Int) = _ ∧ _;unfold uF35;by_cases h : i < x.length
  ·rw [show decide ((i : Int) < (x.length : Int)) = true by simpa using h,idx_at h]
   simp only [cond_true,Option.bind_some];rw [bad_ok (hw _ (List.getElem_mem h))];simp only [Option.bind_some];have hwr : IntKind.wrap .i64 ((i : Int) + 1) = ((i + 1 : Nat) : Int):=by rw [w64 (by omega) (by omega)]; rfl
   cases hb : bad x[i] with
   | true=>left; exact ⟨_,rfl,by show (3 : Int) ≠ 0; decide⟩
   | false =>
    simp only [cond_false];by_cases h0 : 0 < i
    ·rw [show decide ((i : Int) > 0) = true by simpa using h0]
     simp only [cond_true];have e1 : IntKind.wrap .i64 ((i : Int) - 1) = ((i - 1 : Nat) : Int):=by rw [w64 (by omega) (by omega)]; omega
     rw [e1,idx_at (show i - 1 < x.length by omega)];simp only [Option.bind_some];cases hq : (Op.bytesLess x[i] x[i - 1] || x[i] == x[i - 1]) with
     | true=>left; exact ⟨_,rfl,by show (7 : Int) ≠ 0; decide⟩
     | false =>
      right;simp only [cond_false,hwr];simp only [Bool.or_eq_false_iff] at hq;refine ⟨_,rfl,⟨i + 1,rfl,by omega,fun j hj hlt=>?_⟩,by simp; omega⟩;rcases Nat.lt_or_eq_of_le (Nat.le_of_lt_succ hlt) with q | q
      ·exact hP j hj q
      ·subst q; exact ⟨hb,fun _=>bl_tot hq.1 hq.2⟩
    ·right
     rw [show decide ((i : Int) > 0) = false by simp; omega];simp only [cond_false,Option.bind_some,hwr];refine ⟨_,rfl,⟨i + 1,rfl,by omega,fun j hj hlt=>?_⟩,by simp; omega⟩;rcases Nat.lt_or_eq_of_le (Nat.le_of_lt_succ hlt) with q | q
     ·exact hP j hj q
     ·subst q; exact ⟨hb,fun h=>absurd h h0⟩
  ·left
   rw [show decide ((i : Int) < (x.length : Int)) = false by simpa using h];exact ⟨_,rfl,fun j hj=>hP j hj (by omega)⟩

theorem ev36 {w : List UInt8} {n : Nat} {out : List Int} (hl : w.length ≤ 60) (h : loopF (fun s : List Int × Int=>uF36a w (List.replicate w.length 0) s.1 s.2) n (List.replicate w.length 0,(0 : Int)) = some (.inl out)) : uF36 w = some (bytesStr out,0):=by
 unfold uF36;rw [show decide ((w.length : Int) > 60) = false by simp; omega];simp only [bnd,cond_false];rw [mkN_of (by omega) (by omega) (by omega)];simp only [Option.bind_some,Int.toNat_natCast];rw [loopO_of h];rfl
theorem ev42 {w : List UInt8} {n : Nat} {out : List Int} (hl : w.length ≤ 60) (h : loopF (fun s : List Int × Int=>uF42a (strInts w) s.1 s.2) n (([] : List Int),(0 : Int)) = some (.inl out)) : uF42 w = some (bytesStr out,0):=by
 unfold uF42;rw [show decide ((w.length : Int) > 60) = false by simp; omega];simp only [bnd,cond_false];have : strBytes w = some (strInts w):=by unfold strBytes; rw [if_pos (by omega)]
 rw [this];simp only [Option.bind_some];rw [loopO_of h];rfl
theorem key_one {w : List UInt8} {out : List Int} (hl : w.length ≤ 60) (h0 : out ≠ []) (h1 : out.length ≤ 60) (h36 : loopF (fun s : List Int × Int=>uF36a w (List.replicate w.length 0) s.1 s.2) 6 (List.replicate w.length 0,(0 : Int)) = some (.inl out))
  (h42 : loopF (fun s : List Int × Int=>uF42a (strInts w) s.1 s.2) 6 (([] : List Int),(0 : Int)) = some (.inl out)) : uF36 w = some (keyW w,0) ∧ keyW w ≠ [] ∧ (keyW w).length ≤ 100 ∧ (uF42 w).isSome = true:=by
 have e42:=ev42 hl h42;have ek : keyW w = bytesStr out:=by unfold keyW; rw [e42]; rfl
 refine ⟨by rw [ek]; exact ev36 hl h36,?_,?_,by rw [e42]; rfl⟩
 ·rw [ek]
  intro e;exact h0 (List.map_eq_nil_iff.1 e)
 ·rw [ek]
  unfold bytesStr;rw [List.length_map];omega
theorem key_all {w : List UInt8} (h : inW w) (hb : bad w = false) : uF36 w = some (keyW w,0) ∧ keyW w ≠ [] ∧ (keyW w).length ≤ 100 ∧ (uF42 w).isSome = true:=by
 unfold inW ten extra at h;simp only [List.mem_cons,List.not_mem_nil,or_false] at h;rcases h with (rfl | rfl | rfl | rfl | rfl | rfl | rfl | rfl | rfl | rfl) | (rfl | rfl | rfl | rfl | rfl)
 ·exact key_one (out:=[50]) (by decide) (by decide) (by decide) rfl rfl
 ·exact key_one (out:=[50,51]) (by decide) (by decide) (by decide) rfl rfl
 ·exact key_one (out:=[50,51]) (by decide) (by decide) (by decide) rfl rfl
 ·exact key_one (out:=[50,51,51]) (by decide) (by decide) (by decide) rfl rfl
 ·exact key_one (out:=[50,50,50]) (by decide) (by decide) (by decide) rfl rfl
 ·exact key_one (out:=[51]) (by decide) (by decide) (by decide) rfl rfl
 ·exact key_one (out:=[51,50,51]) (by decide) (by decide) (by decide) rfl rfl
 ·exact key_one (out:=[51,50,51]) (by decide) (by decide) (by decide) rfl rfl
 ·exact key_one (out:=[51,51,51]) (by decide) (by decide) (by decide) rfl rfl
 ·exact key_one (out:=[54]) (by decide) (by decide) (by decide) rfl rfl
 ·simp [bad] at hb
 ·simp [bad] at hb
 ·exact key_one (out:=[57,57]) (by decide) (by decide) (by decide) rfl rfl
 ·exact key_one (out:=[50]) (by decide) (by decide) (by decide) rfl rfl
 ·simp [bad] at hb
def nine : List (List UInt8):=[[50],[50,51],[50,51,50],[50,50,51,50,51],[51,51,50,51],[50,51,51,50,51,50,51],[],[54],[120]]
def dok (d : List UInt8) : Bool:=!(d == [] || d == [120])
theorem nine_ok {d : List UInt8} (h : d ∈ nine) : uF34 d 1 30 = some (dok d) ∧ uF38 d 1 30 = some (dok d) ∧ (dok d = true → 1 ≤ d.length) ∧ d.length ≤ 30:=by
 unfold nine at h;simp only [List.mem_cons,List.not_mem_nil,or_false] at h;rcases h with rfl | rfl | rfl | rfl | rfl | rfl | rfl | rfl | rfl <;> exact ⟨by rfl,by rfl,by decide,by decide⟩
theorem eq_ok {x : List (List UInt8)} (hl : x.length ≤ 100) : uF12a x x = some true:=by
 unfold uF12a;rw [show ((x.length : Int) != (x.length : Int)) = false by simp];simp only [cond_false];have key:=loop_for (step:=fun s : Int=>uF12 x x s) (N:=x.length) (fun k=>(k : Int)) (.inl ()) (fun k hk=>?_) ?_
 ·have key : loopO (fun s : Int=>uF12 x x s) (0 : Int) = some (.inl ()):=key
  rw [key];rfl
 ·unfold uF12
  rw [show decide ((k : Int) < (x.length : Int)) = true by simpa using hk,idx_at hk];simp only [cond_true,Option.bind_some,beq_self_eq_true,Bool.not_true,cond_false];rw [w64 (by omega) (by omega)];rfl
 ·unfold uF12
  rw [show decide ((x.length : Int) < (x.length : Int)) = false by simp];rfl
theorem fault_ok {d : List UInt8} {x : List (List UInt8)} (hd : uF38 d 1 30 = some true) : uF9 d x = uF35a x:=by
 unfold uF9 uF35a;rw [hd];have e : (fun s : Int=>uF9a x s) = fun s : Int=>uF35 x s:=by funext s; exact step_eq x s
 rw [e];rfl
theorem law_WordsFound (l : List Int) (hl : l.length ≤ 4611686018427387904) : uF3 l = some true:=by
 have hS : SOk ⟨l,0⟩ 0:=⟨hl,Int.le_refl _,Int.le_refl _⟩;obtain ⟨d,hd,hdm⟩:=some_in ⟨l,0⟩ nine 0 hS (by omega) (by decide) (by decide);obtain ⟨st,ws,hw,hwl,hwm⟩:=draw_words ⟨l,0 + 1⟩ 1 hS.one (by omega);obtain ⟨h34,h38,hd1,hd2⟩:=nine_ok hdm;obtain ⟨e,h35,hgood⟩:=check_ok hwm (by omega);unfold uF3;have hd' : uF6 ((⟨l,(0 : Int)⟩ : uT0)) (([([50] : List UInt8),([50,51] : List UInt8),([50,51,50] : List UInt8),([50,50,51,50,51] : List UInt8),([51,51,50,51] : List UInt8),([50,51,51,50,51,50,51] : List UInt8),([] : List UInt8),([54] : List UInt8),([120] : List UInt8)] : List (List UInt8))) = _:=hd;rw [hd'];simp only [Option.bind_some];rw [hw];simp only [Option.bind_some];have hnum : uF10 = some true:=rfl
 have wrong : ∀ e : Int,e ≠ 0 → uF8 d ws = some ([],false,e) → uF9 d ws = some e → ((uF8 d ws).bind fun y30=>(uF9 d ws).bind fun y35=>bif (y35 != ((0 : Int))) then ((bif (((y30.2.2 == y35) && (!y30.2.1)) && (((List.length y30.1 : Int)) == ((0 : Int)))) then ((uF10).bind fun y61=>some y61) else (some false)).bind fun y64=>some y64) else ((uF11 d ws).bind fun y69=>(bif ((y30.2.2 == ((0 : Int))) && (y30.2.1 == y69.2)) then ((uF12a y30.1 y69.1).bind fun y93=>some y93) else (some false)).bind fun y96=>(bif y96 then ((uF10).bind fun y105=>some y105) else (some false)).bind fun y108=>some y108)) = some true:=by
  intro e he h8 h9;rw [h8,h9,hnum];simp only [Option.bind_some];rw [show (e != 0) = true by simpa using he];simp
 cases hdk : dok d with
 | false =>
  rw [hdk] at h34 h38;refine wrong 3 (by decide) ?_ ?_
  ·unfold uF8
   rw [h34];rfl
  ·unfold uF9
   rw [h38];rfl
 | true =>
  rw [hdk] at h34 h38;have h9:=fault_ok (x:=ws) h38;by_cases he : e = 0
  ·subst he
   obtain ⟨g1,g2⟩:=hgood rfl;have hk : ∀ w ∈ ws,_:=fun w hw'=>key_all (hwm w hw') (g1 w hw');have hok : WOk d ws:=⟨hd1 hdk,hd2,by omega,fun w hw'=>(hk w hw').1,fun w hw'=>(hk w hw').2.1,fun w hw'=>(hk w hw').2.2.1,g2⟩;have hg : guardW d ws:=⟨by omega,by omega,fun w hw'=>⟨(hk w hw').2.2.2,by have:=(hk w hw').2.2.1; omega⟩⟩;obtain ⟨x,b,h8,h11,hx⟩:=words_agree hok h34 h35 hg;rw [h9,h35,h8,h11,hnum];simp only [Option.bind_some,bne_self_eq_false,cond_false,beq_self_eq_true,Bool.and_self,cond_true];rw [eq_ok hx];rfl
  ·refine wrong e he ?_ (h9.trans h35)
   unfold uF8;rw [h34];simp only [Option.bind_some,Bool.not_true,cond_false];rw [h35];simp only [Option.bind_some];rw [show (e != 0) = true by simpa using he];rfl
end Go.Proofs.YtameabpbghichaaGreatDoor
