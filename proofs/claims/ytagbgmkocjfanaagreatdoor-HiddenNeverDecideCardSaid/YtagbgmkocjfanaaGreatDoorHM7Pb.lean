/-
  WaitsAreTrue: which rule decides, and whether one could; the law.
-/
import Derived.Test.YtagbgmkocjfanaaGreatDoorHM7PKb
namespace Go.Proofs.YtagbgmkocjfanaaGreatDoor
open Go Go.Abs
set_option maxRecDepth 100000
set_option maxHeartbeats 1000000
theorem begins2_is {es : List Nat} {t : Nat} (h : ∀ e ∈ es,e < 12) (ht : t < 3) (bs : List Nat) (hb : ∀ b ∈ bs,b < 12) (hl : bs.length ≤ 100) :
  ∃ s w,uF94 (PT es t) (bs.map SG) = some (s,w) ∧ (w = true ↔ mt es t bs) ∧ ((∀ i (h : i < bs.length),has (mc es t i) bs[i] = true) → s = (MC (mc es t bs.length) != 0 || ed es t bs.length)):=by
 obtain ⟨s,w,e,hw⟩:=begins_is h ht bs hb hl;refine ⟨s,w,e,hw,fun hall=>?_⟩;have hln : ((List.length (bs.map SG) : Nat) : Int) = (bs.length : Int):=by simp
 have hloop : loopO (fun s : Int=>uF94a (PT es t) (bs.map SG) s) 0 = some (.inl ()):=by
  have:=loop_for (N:=bs.length) (step:=fun s : Int=>uF94a (PT es t) (bs.map SG) s) (fun k=>(k : Int)) (.inl ()) (fun k hk=>by
   have hm : k < (bs.map SG).length:=by simpa using hk
   have hd : (decide (((k : Nat) : Int) < (bs.length : Int))) = true:=by simp; exact hk
   have hbi:=hb _ (List.getElem_mem hk);have hid : idx (bs.map SG) (k : Int) = some (SG bs[k]):=by rw [idx_at hm]; simp
   simp only [uF94a,hln,hd,cond_true,takes_is h ht,hid,Option.bind_some,only_is hbi,has_is (mc_lt (t:=t) h k) hbi,hall k hk,Bool.not_true,cond_false];rw [w64 (by omega) (by omega)]; rfl) (by simp [uF94a])
  simpa using this
 simp only [uF94,hloop,lret,hln,takes_is h ht,Option.bind_some,bnd] at e;have e:=Option.some.inj e;exact (Prod.mk.inj e).1.symm

section
variable {p : uT3} {a b : uT4} {R0 R1 R2 : List uT6} {I0 I1 : List (List UInt8)} {most : Int}
noncomputable def fits (a b : uT4) (d : List UInt8) (at_ : Int) (r : uT6) : Bool:=match uF79 r.Pattern with
  | some (pt,_)=>match uF94 pt d with
    | some (_,w)=>w && cnt a b r.Hours at_
    | none=>false
  | none=>false
end
theorem wu64 {n : Int} (h1 : 0 ≤ n) (h2 : n ≤ 18446744073709551615) : IntKind.wrap .u64 n = n:=by
 simp only [IntKind.wrap,IntKind.bits,IntKind.signed];have : n % 18446744073709551616 = n:=Int.emod_eq_of_lt h1 (by omega);simpa using this
theorem shr_is {A k : Nat} (hk : k < 64) : gshr .u64 (A : Int) (k : Int) = some ((A / 2 ^ k : Nat) : Int):=by
 unfold gshr;rw [if_neg (by omega)];have h1 : min (k : Int).toNat IntKind.u64.bits = k:=by
  show min (k : Int).toNat 64 = k;omega
 rw [h1,Int.fdiv_eq_ediv_of_nonneg _ (Int.le_of_lt (Int.pow_pos (by omega)))];simp
theorem and_one {A : Nat} (h : A < 2 ^ 64) : gand .u64 (A : Int) 1 = ((A % 2 : Nat) : Int):=by
 unfold gand;have h1 : (BitVec.ofInt IntKind.u64.bits (A : Int) &&& BitVec.ofInt IntKind.u64.bits 1).toNat = A % 2:=by
  show (BitVec.ofInt 64 (A : Int) &&& BitVec.ofInt 64 1).toNat = A % 2;rw [BitVec.toNat_and,BitVec.ofInt_natCast,BitVec.toNat_ofNat,Nat.mod_eq_of_lt h,show (BitVec.ofInt 64 1).toNat = 1 from rfl,Nat.and_one_is_mod]
 rw [h1,wu64 (by omega) (by omega)]
theorem bit_is {A k : Nat} (hA : A < 4096) (hk : k < 64) : ∃ y,gshr .u64 (A : Int) (k : Int) = some y ∧ (gand .u64 y 1 != 0) = A.testBit k:=by
 refine ⟨_,shr_is hk,?_⟩;have hlt : A / 2 ^ k < 2 ^ 64:=Nat.lt_of_le_of_lt (Nat.div_le_self _ _) (by omega);rw [and_one hlt,Nat.testBit_eq_decide_div_mod_eq];rw [Bool.eq_iff_iff];simp only [bne_iff_ne,ne_eq,decide_eq_true_eq];omega
theorem shl_is {k : Nat} (hk : k < 13) : gshl .u64 1 (k : Int) = some ((2 ^ k : Nat) : Int):=by
 rcases (by omega : k = 0 ∨ k = 1 ∨ k = 2 ∨ k = 3 ∨ k = 4 ∨ k = 5 ∨ k = 6 ∨ k = 7 ∨ k = 8 ∨ k = 9 ∨ k = 10 ∨ k = 11 ∨ k = 12) with rfl | rfl | rfl | rfl | rfl | rfl | rfl | rfl | rfl | rfl | rfl | rfl | rfl <;> rfl
theorem clr_is {A k : Nat} (hA : A < 4096) (hk : k < 12) : ∃ A' : Nat,gandnot .u64 (A : Int) ((2 ^ k : Nat) : Int) = (A' : Int) ∧ A' < 4096 ∧ ∀ j,A'.testBit j = (A.testBit j && !decide (j = k)):=by
 refine ⟨(BitVec.ofNat 64 A &&& ~~~BitVec.ofNat 64 (2 ^ k)).toNat,?_,?_,fun j=>?_⟩
 ·unfold gandnot
  show IntKind.wrap .u64 ((BitVec.ofInt 64 (A : Int) &&& ~~~(BitVec.ofInt 64 ((2 ^ k : Nat) : Int))).toNat : Int) = _;rw [BitVec.ofInt_natCast,BitVec.ofInt_natCast]
  have:=(BitVec.ofNat 64 A &&& ~~~BitVec.ofNat 64 (2 ^ k)).isLt
  exact wu64 (by omega) (by omega)
 ·rw [BitVec.toNat_and]
  refine Nat.lt_of_le_of_lt Nat.and_le_left ?_;rw [BitVec.toNat_ofNat];exact Nat.lt_of_le_of_lt (Nat.mod_le _ _) hA
 ·rw [BitVec.testBit_toNat,BitVec.getLsbD_and,BitVec.getLsbD_not,BitVec.getLsbD_ofNat,BitVec.getLsbD_ofNat,Nat.testBit_two_pow]
  by_cases hj : j < 64
  ·by_cases e : j = k
   ·subst e; simp [hj]
   ·have e2 : ¬ k = j:=fun q=>e q.symm
    simp [hj,e,e2]
  ·have : A.testBit j = false:=Nat.testBit_lt_two_pow (Nat.lt_of_lt_of_le hA (by
    have : (4096 : Nat) = 2 ^ 12:=by decide
    rw [this];exact Nat.pow_le_pow_right (by omega) (by omega)))
   simp [this]
theorem msk_all : (List.range 14).all (fun c=>(List.range 12).all fun b=>match gshr .u16 (MC c) (b : Int) with | some y=>(gand .u16 y 1 == 0) == !(has c b) | none=>false) = true:=by kernel_rfl
theorem msk_is {c b : Nat} (hc : c < 14) (hb : b < 12) : ∃ y,gshr .u16 (MC c) (b : Int) = some y ∧ (gand .u16 y 1 == 0) = !(has c b):=by
 have:=List.all_eq_true.1 (List.all_eq_true.1 msk_all c (List.mem_range.2 hc)) b (List.mem_range.2 hb)
 revert this;cases gshr .u16 (MC c) (b : Int) with
 | none=>simp
 | some y=>intro h; exact ⟨y,rfl,by simpa using h⟩

def POk (q : List Nat × Nat) : Prop:=(∀ e ∈ q.1,e < 12) ∧ q.2 < 3 ∧ q.1.length ≤ 4
def PLs (L : List (List Nat × Nat)) : List uT1:=L.map fun q=>PT q.1 q.2
theorem PLs_len (L : List (List Nat × Nat)) : (List.length (PLs L) : Int) = (L.length : Int):=by simp [PLs]
theorem PLs_at {L : List (List Nat × Nat)} {k : Nat} (h : k < L.length) : idx (PLs L) (k : Int) = some (PT L[k].1 L[k].2):=by
 have : k < (PLs L).length:=by simpa [PLs] using h
 rw [idx_at this]; simp [PLs]
def hbk (L : List (List Nat × Nat)) (at_ b k : Nat) : Bool:=match L[k]? with
  | some q=>has (mc q.1 q.2 at_) b
  | none=>true

section
variable {L : List (List Nat × Nat)} (hL : ∀ q ∈ L,POk q) (hn : L.length ≤ 12)
include hL hn
theorem ends_is {A : Nat} (hA : A < 4096) (at_ : Nat) : ∃ r,uF154 (PLs L) (A : Int) (at_ : Int) = some r ∧ (r = true → ∃ k,∃ h : k < L.length,ed L[k].1 L[k].2 at_ = true ∧ A.testBit k = true):=by
 obtain ⟨e,h1,h2⟩:=loopO_ind (step:=fun s : Int=>uF154a (PLs L) (A : Int) (at_ : Int) s)
  (fun q=>0 ≤ q ∧ q ≤ L.length)
  (fun e=>match e with
   | .inl _=>True
   | .inr r=>r = true → ∃ k,∃ h : k < L.length,ed L[k].1 L[k].2 at_ = true ∧ A.testBit k = true) (fun q=>(L.length - q).toNat) (fun q hq=>by
   obtain ⟨q0,q1⟩:=hq;simp only [uF154a,PLs_len];by_cases hlt : q < L.length
   ·obtain ⟨i,rfl⟩:=Int.eq_ofNat_of_zero_le q0
    have hi : i < L.length:=by omega
    obtain ⟨p1,p2,_⟩:=hL _ (List.getElem_mem hi);have hd : (decide (((i : Nat) : Int) < (L.length : Int))) = true:=by simp; exact hi
    obtain ⟨y,y1,y2⟩:=bit_is (k:=i) hA (by omega);simp only [hd,cond_true,PLs_at hi,Option.bind_some,takes_is p1 p2,y1,y2];cases he : ed L[i].1 L[i].2 at_ with
    | false =>
     simp only [cond_false,Option.bind_some];rw [w64 (by omega) (by omega)];exact .inr ⟨_,rfl,⟨by omega,by omega⟩,by omega⟩
    | true =>
     simp only [cond_true,Option.bind_some];cases ha : A.testBit i with
     | false =>
      simp only [cond_false];rw [w64 (by omega) (by omega)];exact .inr ⟨_,rfl,⟨by omega,by omega⟩,by omega⟩
     | true=>exact .inl ⟨_,rfl,fun _=>⟨i,hi,he,ha⟩⟩
   ·exact .inl ⟨.inl (),by simp [hlt],trivial⟩) 0 ⟨by omega,by omega⟩
 simp only [uF154,h1,lret];match e,h2 with
 | .inl _,_=>exact ⟨_,rfl,by simp⟩
 | .inr r,h2=>exact ⟨_,rfl,h2⟩

theorem nextS_is (a A at' al : Nat) {b : Nat} (hA : A < 4096) (hb : b < 12) : ∃ A' : Nat,loopO (fun s : Int × uT7=>uF91a (PLs L) ⟨(a : Int),(al : Int)⟩ (b : Int) s.1 s.2) (0,⟨(at' : Int),(A : Int)⟩) = some ⟨(at' : Int),(A' : Int)⟩ ∧ A' < 4096 ∧ ∀ k,A'.testBit k = (A.testBit k && hbk L a b k):=by
 obtain ⟨e,h1,A',h2,h3,h4⟩:=loopO_ind (step:=fun s : Int × uT7=>uF91a (PLs L) ⟨(a : Int),(al : Int)⟩ (b : Int) s.1 s.2)
  (fun q=>0 ≤ q.1 ∧ q.1 ≤ L.length ∧ ∃ B : Nat,q.2 = ⟨(at' : Int),(B : Int)⟩ ∧ B < 4096 ∧ ∀ k,B.testBit k = (A.testBit k && (!decide ((k : Int) < q.1) || hbk L a b k)))
  (fun e=>∃ B : Nat,e = ⟨(at' : Int),(B : Int)⟩ ∧ B < 4096 ∧ ∀ k,B.testBit k = (A.testBit k && hbk L a b k)) (fun q=>(L.length - q.1).toNat) (fun q hq=>by
   obtain ⟨j,s⟩:=q;obtain ⟨q0,q1,B,q2,q3,q4⟩:=hq;simp only [] at q0 q1 q2 q4;subst q2;simp only [uF91a,PLs_len];by_cases hlt : j < L.length
   ·obtain ⟨i,rfl⟩:=Int.eq_ofNat_of_zero_le q0
    have hi : i < L.length:=by omega
    obtain ⟨p1,p2,_⟩:=hL _ (List.getElem_mem hi);have hd : (decide (((i : Nat) : Int) < (L.length : Int))) = true:=by simp; exact hi
    obtain ⟨y,y1,y2⟩:=msk_is (c:=mc L[i].1 L[i].2 a) (mc_lt p1 a) hb;have hbi : hbk L a b i = has (mc L[i].1 L[i].2 a) b:=by simp [hbk,hi]
    simp only [hd,cond_true,PLs_at hi,Option.bind_some,takes_is p1 p2,y1,y2];cases hh : has (mc L[i].1 L[i].2 a) b with
    | true =>
     simp only [Bool.not_true,cond_false];rw [w64 (by omega) (by omega)];refine .inr ⟨_,rfl,⟨by (try simp only []); omega,by (try simp only []); omega,B,rfl,q3,fun k=>?_⟩,by (try simp only []); omega⟩;rw [q4 k];by_cases e : k = i
     ·subst e; simp [hbi,hh]
     ·have : (decide ((k : Int) < (i : Int))) = decide ((k : Int) < (i : Int) + 1):=by
       rw [decide_eq_decide]; omega
      rw [this]
    | false =>
     obtain ⟨B',b1,b2,b3⟩:=clr_is (k:=i) q3 (by omega);simp only [Bool.not_false,cond_true,shl_is (k:=i) (by omega),Option.bind_some,b1];rw [w64 (by omega) (by omega)];refine .inr ⟨_,rfl,⟨by (try simp only []); omega,by (try simp only []); omega,B',rfl,b2,fun k=>?_⟩,by (try simp only []); omega⟩;rw [b3 k,q4 k];by_cases e : k = i
     ·subst e
      simp only [hbi,hh,decide_true,Bool.not_true,Bool.and_false,Bool.or_false];have : (decide ((k : Int) < (k : Int) + 1)) = true:=by simp; omega
      simp [this]
     ·have : (decide ((k : Int) < (i : Int))) = decide ((k : Int) < (i : Int) + 1):=by
       rw [decide_eq_decide]; omega
      rw [this,show decide (k = i) = false from by simp [e],Bool.not_false,Bool.and_true]
   ·have hj : j = L.length:=by omega
    refine .inl ⟨⟨(at' : Int),(B : Int)⟩,by simp [hlt],B,rfl,q3,fun k=>?_⟩;rw [q4 k,hj];by_cases hk : k < L.length
    ·simp [hk]
    ·have : hbk L a b k = true:=by simp [hbk,List.getElem?_eq_none (Nat.le_of_not_lt hk)]
     simp [this]) (0,⟨(at' : Int),(A : Int)⟩) ⟨by simp,by simp,A,rfl,hA,fun k=>by
      have : ¬ ((k : Int) < 0):=by omega
      simp [this]⟩
 subst h2;exact ⟨A',h1,h3,h4⟩
end
theorem nodup_lt : ∀ (N : Nat) (l : List Nat),l.Nodup → (∀ x ∈ l,x < N) → l.length ≤ N
 | 0,l,_,h=>by
  cases l with
  | nil=>simp
  | cons a l=>have:=h a (by simp); omega
 | N + 1,l,hd,h=>by
  have h1 : (l.erase N).Nodup:=hd.erase N
  have h2 : ∀ x ∈ l.erase N,x < N:=fun x hx=>by
   have h3 : x ≠ N ∧ x ∈ l:=(List.Nodup.mem_erase_iff hd).1 hx
   have:=h x h3.2
   omega
  have ih:=nodup_lt N _ h1 h2
  have h4:=List.length_erase (a:=N) (l:=l)
  split at h4 <;> omega
theorem nodup_map {α β : Type} {f : α → β} {l : List α} (hd : l.Nodup) (h : ∀ x ∈ l,∀ y ∈ l,f x = f y → x = y) : (l.map f).Nodup:=by
 unfold List.Nodup at *;rw [List.pairwise_map];exact List.Pairwise.imp_of_mem (fun hx hy hne e=>hne (h _ hx _ hy e)) hd

def KW (k : Int × Int) : Prop:=∃ a A : Nat,k = ((a : Int),(A : Int)) ∧ a ≤ 30 ∧ A < 4096
theorem keys_len {l : List (Int × Int)} (hd : l.Nodup) (h : ∀ k ∈ l,KW k) : l.length ≤ 126976:=by
 have h1 : (l.map fun k : Int × Int=>(k.1 * 4096 + k.2).toNat).Nodup:=nodup_map hd (fun x hx y hy e=>by
  obtain ⟨a,A,rfl,h1,h2⟩:=h x hx;obtain ⟨b,B,rfl,h3,h4⟩:=h y hy;simp only [] at e;have : a = b ∧ A = B:=by omega
  rw [this.1,this.2])
 have h2:=nodup_lt 126976 _ h1 (fun n hn=>by
  rw [List.mem_map] at hn;obtain ⟨k,hk,rfl⟩:=hn;obtain ⟨a,A,rfl,h1,h2⟩:=h k hk;simp only [];omega)
 rwa [List.length_map] at h2
theorem mget_all {m : List ((Int × Int) × Bool)} {k : Int × Int} (h : ∀ p ∈ m,p.2 = true) : (mget m k = some true ∧ k ∈ m.map Prod.fst) ∨ (mget m k = none ∧ k ∉ m.map Prod.fst):=by
 induction m with
 | nil=>exact .inr ⟨rfl,by simp⟩
 | cons p m ih =>
  obtain ⟨a,b⟩:=p;have hb : b = true:=h (a,b) (by simp);subst hb;by_cases e : a = k
  ·exact .inl ⟨by simp [mget,e],by simp [e]⟩
  ·rcases ih (fun p hp=>h p (List.mem_cons_of_mem _ hp)) with ⟨h1,h2⟩ | ⟨h1,h2⟩
   ·exact .inl ⟨by simp [mget,e,h1],by rw [List.map_cons]; exact List.mem_cons_of_mem _ h2⟩
   ·refine .inr ⟨by simp [mget,e,h1],?_⟩
    rw [List.map_cons,List.mem_cons];rintro (q | q)
    ·exact e q.symm
    ·exact h2 q
def ke (s : uT7) : Int × Int:=(s.at_,s.alive)
def WF (s : uT7) : Prop:=∃ a A : Nat,s = ⟨(a : Int),(A : Int)⟩ ∧ a ≤ 30 ∧ A < 4096

section
variable (es : List Nat) (t : Nat) (L : List (List Nat × Nat))
def okS (m : List ((Int × Int) × Bool)) (a A : Nat) : Prop :=
  (ed es t a = true → 0 < a → ∃ k,∃ h : k < L.length,ed L[k].1 L[k].2 a = true ∧ A.testBit k = true) ∧
  (a < 30 → ∀ b,b < 12 → has (mc es t a) b = true → ∃ A' : Nat,((((a + 1 : Nat) : Int),(A' : Int)) : Int × Int) ∈ m.map Prod.fst ∧ ∀ k,A'.testBit k = (A.testBit k && hbk L a b k))
variable {es t L}
theorem okS.mono {m m' : List ((Int × Int) × Bool)} {a A : Nat} (h : okS es t L m a A) (hm : ∀ k ∈ m.map Prod.fst,k ∈ m'.map Prod.fst) : okS es t L m' a A :=
 ⟨h.1,fun h1 b hb hh=>by
  obtain ⟨A',h2,h3⟩:=h.2 h1 b hb hh
  exact ⟨A',hm _ h2,h3⟩⟩

structure Inv (m : List ((Int × Int) × Bool)) (Q : List uT7) : Prop where
  vals : ∀ p ∈ m,p.2 = true ∧ KW p.1
  nd : (m.map Prod.fst).Nodup
  wf : ∀ s ∈ Q,WF s
  len : Q.length ≤ m.length + 1
theorem Inv.small {m : List ((Int × Int) × Bool)} {Q : List uT7} (h : Inv m Q) : m.length ≤ 126976:=by
 have:=keys_len h.nd (fun k hk=>by
  rw [List.mem_map] at hk;obtain ⟨p,hp,rfl⟩:=hk;exact (h.vals p hp).2)
 rwa [List.length_map] at this

theorem letters_is (hL : ∀ q ∈ L,POk q) (hn : L.length ≤ 12) (he : ∀ e ∈ es,e < 12) {a A : Nat} (ha : a < 30) (hA : A < 4096) {e0 : Bool} {m0 : List ((Int × Int) × Bool)} {Q0 : List uT7} (h0 : Inv m0 Q0) (hlen : Q0.length ≤ m0.length) :
  ∃ m Q,loopO (fun s : List ((Int × Int) × Bool) × List uT7 × Int=>uF91 (PLs L) ⟨(a : Int),(A : Int)⟩ (MC (mc es t a),e0) s.1 s.2.1 s.2.2) (m0,Q0,0) = some (m,Q) ∧ Inv m Q ∧ (∃ q : List uT7,Q = Q0 ++ q ∧ m = m0 ++ q.map fun s=>(ke s,true)) ∧
   ∀ b,b < 12 → has (mc es t a) b = true → ∃ A' : Nat,((((a + 1 : Nat) : Int),(A' : Int)) : Int × Int) ∈ m.map Prod.fst ∧ ∀ k,A'.testBit k = (A.testBit k && hbk L a b k):=by
 obtain ⟨e,h1,h2,h3,h4⟩:=loopO_ind (step:=fun s : List ((Int × Int) × Bool) × List uT7 × Int=>uF91 (PLs L) ⟨(a : Int),(A : Int)⟩ (MC (mc es t a),e0) s.1 s.2.1 s.2.2)
  (fun s=>0 ≤ s.2.2 ∧ s.2.2 ≤ 12 ∧ Inv s.1 s.2.1 ∧ (∃ q : List uT7,s.2.1 = Q0 ++ q ∧ s.1 = m0 ++ q.map fun s=>(ke s,true)) ∧
   ∀ b : Nat,(b : Int) < s.2.2 → has (mc es t a) b = true → ∃ A' : Nat,((((a + 1 : Nat) : Int),(A' : Int)) : Int × Int) ∈ s.1.map Prod.fst ∧ ∀ k,A'.testBit k = (A.testBit k && hbk L a b k))
  (fun e=>Inv e.1 e.2 ∧ (∃ q : List uT7,e.2 = Q0 ++ q ∧ e.1 = m0 ++ q.map fun s=>(ke s,true)) ∧
   ∀ b,b < 12 → has (mc es t a) b = true → ∃ A' : Nat,((((a + 1 : Nat) : Int),(A' : Int)) : Int × Int) ∈ e.1.map Prod.fst ∧ ∀ k,A'.testBit k = (A.testBit k && hbk L a b k)) (fun s=>(12 - s.2.2).toNat) (fun s hs=>by
   obtain ⟨m,Q,i⟩:=s;obtain ⟨s0,s1,s2,⟨q,s3,s4⟩,s5⟩:=hs;simp only [] at s0 s1 s2 s3 s4 s5;simp only [uF91];by_cases hlt : i < 12
   ·obtain ⟨j,rfl⟩:=Int.eq_ofNat_of_zero_le s0
    have hj : j < 12:=by omega
    obtain ⟨y,y1,y2⟩:=msk_is (c:=mc es t a) (mc_lt he a) hj;simp only [hlt,decide_true,cond_true,y1,Option.bind_some,y2];cases hh : has (mc es t a) j with
    | false =>
     simp only [Bool.not_false,cond_true];rw [w64 (by omega) (by omega)];refine .inr ⟨_,rfl,⟨by (try simp only []); omega,by (try simp only []); omega,s2,⟨q,s3,s4⟩,fun b hb hhb=>?_⟩,by (try simp only []); omega⟩;by_cases e : b = j
     ·subst e; rw [hh] at hhb; simp at hhb
     ·exact s5 b (by simp only [] at hb; omega) hhb
    | true =>
     obtain ⟨A',n1,n2,n3⟩:=nextS_is hL hn a A (a + 1) A hA hj;have e1 : IntKind.wrap .i64 ((a : Int) + 1) = ((a + 1 : Nat) : Int):=by rw [w64 (by omega) (by omega)]; omega
     simp only [Bool.not_true,cond_false,e1,n1,Option.bind_some];have hk : KW (((a + 1 : Nat) : Int),(A' : Int)):=⟨a + 1,A',rfl,by omega,n2⟩;rcases mget_all (k:=(((a + 1 : Nat) : Int),(A' : Int))) (fun p hp=>(s2.vals p hp).1) with ⟨g1,g2⟩ | ⟨g1,g2⟩
     ·simp only [g1,Option.getD_some,Bool.not_true,cond_false]
      rw [w64 (by omega) (by omega)];refine .inr ⟨_,rfl,⟨by (try simp only []); omega,by (try simp only []); omega,s2,⟨q,s3,s4⟩,fun b hb hhb=>?_⟩,by (try simp only []); omega⟩;by_cases e : b = j
      ·subst e; exact ⟨A',g2,n3⟩
      ·exact s5 b (by simp only [] at hb; omega) hhb
     ·have hsm:=s2.small
      have hln:=s2.len;simp only [g1,Option.getD_none,Bool.not_false,cond_true,bnd];rw [app_of (by simp; omega) (by simp; omega)];simp only [Option.bind_some];rw [w64 (by omega) (by omega),mput_new g1];have hqn : Q.length ≤ m.length:=by
       rw [s3,s4]; simp; omega
      refine .inr ⟨_,rfl,⟨by (try simp only []); omega,by (try simp only []); omega,⟨?_,?_,?_,?_⟩,⟨q ++ [⟨((a + 1 : Nat) : Int),(A' : Int)⟩],by simp only [s3,List.append_assoc],by simp only [s4,List.map_append,List.append_assoc]; rfl⟩,fun b hb hhb=>?_⟩,by (try simp only []); omega⟩
      ·intro p hp
       rcases List.mem_append.1 hp with hp | hp
       ·exact s2.vals p hp
       ·simp at hp; subst hp; exact ⟨rfl,hk⟩
      ·simp only [List.map_append,List.map_cons,List.map_nil]
       rw [List.nodup_append];refine ⟨s2.nd,by simp,fun x hx y hy=>?_⟩;simp at hy;rintro rfl;subst hy;exact g2 (by simpa using hx)
      ·intro s hs
       rcases List.mem_append.1 hs with hs | hs
       ·exact s2.wf s hs
       ·simp at hs; subst hs; exact ⟨a + 1,A',rfl,by omega,n2⟩
      ·simp only [List.length_append,List.length_cons,List.length_nil]; omega
      ·by_cases e : b = j
       ·subst e; exact ⟨A',by simp,n3⟩
       ·obtain ⟨B,b1,b2⟩:=s5 b (by simp only [] at hb; omega) hhb
        exact ⟨B,by simp only [List.map_append]; exact List.mem_append_left _ b1,b2⟩
   ·have : i = 12:=by omega
    subst this;exact .inl ⟨(m,Q),rfl,s2,⟨q,s3,s4⟩,fun b hb hhb=>s5 b (by omega) hhb⟩) (m0,Q0,0) ⟨by simp,by simp,h0,⟨[],by simp,by simp⟩,fun b hb=>by simp only [] at hb; omega⟩
 exact ⟨e.1,e.2,h1,h2,h3,h4⟩

theorem covered_is (hL : ∀ q ∈ L,POk q) (hn : L.length ≤ 12) (he : ∀ e ∈ es,e < 12) (ht : t < 3) :
  ∃ r,uF91b (PT es t) (PLs L) = some r ∧ (r = true → ∀ bs : List Nat,(∀ b ∈ bs,b < 12) → 1 ≤ bs.length → bs.length ≤ 30 → mt es t bs → ∃ q ∈ L,mt q.1 q.2 bs):=by
 have h12 : 2 ^ L.length ≤ 2 ^ 12:=Nat.pow_le_pow_right (by omega) hn;have hpos : 0 < 2 ^ L.length:=Nat.pow_pos (by omega);have hI : 2 ^ L.length - 1 < 4096:=by omega
 obtain ⟨e,h1,h2⟩:=loopO_ind (step:=fun s : List ((Int × Int) × Bool) × List uT7=>uF91c (PT es t) (PLs L) s.1 s.2)
  (fun s=>Inv s.1 s.2 ∧ ∃ D : List uT7,(⟨0,((2 ^ L.length - 1 : Nat) : Int)⟩ ∈ D ∨ ⟨0,((2 ^ L.length - 1 : Nat) : Int)⟩ ∈ s.2) ∧ (∀ k ∈ s.1.map Prod.fst,∃ x : uT7,ke x = k ∧ (x ∈ D ∨ x ∈ s.2)) ∧
   ∀ x ∈ D,∃ a A : Nat,x = ⟨(a : Int),(A : Int)⟩ ∧ okS es t L s.1 a A)
  (fun e=>match e with
   | .inl _=>∃ (m : List ((Int × Int) × Bool)) (D : List uT7),⟨0,((2 ^ L.length - 1 : Nat) : Int)⟩ ∈ D ∧ (∀ k ∈ m.map Prod.fst,∃ x : uT7,ke x = k ∧ x ∈ D) ∧ ∀ x ∈ D,∃ a A : Nat,x = ⟨(a : Int),(A : Int)⟩ ∧ okS es t L m a A
   | .inr r=>r = false) (fun s=>2 * (126976 - s.1.length) + s.2.length) (fun s hs=>by
   obtain ⟨m,Q⟩:=s;obtain ⟨s1,D,s2,s3,s4⟩:=hs;simp only [] at s1 s2 s3 s4;simp only [uF91c];cases Q with
   | nil =>
    refine .inl ⟨.inl (),by simp,m,D,by simpa using s2,fun k hk=>?_,s4⟩;obtain ⟨x,x1,x2⟩:=s3 k hk;exact ⟨x,x1,by simpa using x2⟩
   | cons x Q =>
    obtain ⟨a,A,rfl,ha,hA⟩:=s1.wf x (by simp);have hd : (decide ((List.length ((⟨(a : Int),(A : Int)⟩ : uT7) :: Q) : Int) > 0)) = true:=by simp <;> omega
    have hid : idx ((⟨(a : Int),(A : Int)⟩ : uT7) :: Q) 0 = some ⟨(a : Int),(A : Int)⟩:=rfl;have hsub : sub ((⟨(a : Int),(A : Int)⟩ : uT7) :: Q) 1 (List.length ((⟨(a : Int),(A : Int)⟩ : uT7) :: Q)) = some Q:=by
     unfold sub;rw [if_pos ⟨by omega,by simp; omega,Int.le_refl _⟩];simp
    have hQ : Q.length ≤ m.length:=by have:=s1.len; simp at this; omega
    have s1' : Inv m Q:=⟨s1.vals,s1.nd,fun s hs=>s1.wf s (List.mem_cons_of_mem _ hs),by omega⟩;have hsm:=s1.small;obtain ⟨r,r1,r2⟩:=ends_is hL hn hA a;simp only [hd,cond_true,hid,hsub,Option.bind_some,takes_is he ht,r1]
    -- what is asked at its end
    have fin : ∀ (v : Bool),((ed es t a && decide ((a : Int) > 0)) = true → r = true) → v = false →
      (∃ e : Unit ⊕ Bool,((bif v then some (Sum.inr (Sum.inr false)) else (bif ((a : Int) == 30) then some (Sum.inl (m,Q)) else (loopO (fun s : List ((Int × Int) × Bool) × List uT7 × Int=>uF91 (PLs L) ⟨(a : Int),(A : Int)⟩ (MC (mc es t a),ed es t a) s.1 s.2.1 s.2.2) (m,Q,0)).bind fun (y327,y328)=>some (Sum.inl (y327,y328)))) : Option ((List ((Int × Int) × Bool) × List uT7) ⊕ (Unit ⊕ Bool))) = some (Sum.inr e) ∧ (match e with
       | .inl _=>∃ (m : List ((Int × Int) × Bool)) (D : List uT7),⟨0,((2 ^ L.length - 1 : Nat) : Int)⟩ ∈ D ∧ (∀ k ∈ m.map Prod.fst,∃ x : uT7,ke x = k ∧ x ∈ D) ∧ ∀ x ∈ D,∃ a A : Nat,x = ⟨(a : Int),(A : Int)⟩ ∧ okS es t L m a A
       | .inr r=>r = false)) ∨
      ∃ s',((bif v then some (Sum.inr (Sum.inr false)) else (bif ((a : Int) == 30) then some (Sum.inl (m,Q)) else (loopO (fun s : List ((Int × Int) × Bool) × List uT7 × Int=>uF91 (PLs L) ⟨(a : Int),(A : Int)⟩ (MC (mc es t a),ed es t a) s.1 s.2.1 s.2.2) (m,Q,0)).bind fun (y327,y328)=>some (Sum.inl (y327,y328)))) : Option ((List ((Int × Int) × Bool) × List uT7) ⊕ (Unit ⊕ Bool))) = some (Sum.inl s') ∧ (Inv s'.1 s'.2 ∧ ∃ D : List uT7,(⟨0,((2 ^ L.length - 1 : Nat) : Int)⟩ ∈ D ∨ ⟨0,((2 ^ L.length - 1 : Nat) : Int)⟩ ∈ s'.2) ∧ (∀ k ∈ s'.1.map Prod.fst,∃ x : uT7,ke x = k ∧ (x ∈ D ∨ x ∈ s'.2)) ∧
       ∀ x ∈ D,∃ a A : Nat,x = ⟨(a : Int),(A : Int)⟩ ∧ okS es t L s'.1 a A) ∧ 2 * (126976 - s'.1.length) + s'.2.length < 2 * (126976 - m.length) + ((⟨(a : Int),(A : Int)⟩ : uT7) :: Q).length:=by
     rintro v hr rfl;have hend : ed es t a = true → 0 < a → ∃ k,∃ h : k < L.length,ed L[k].1 L[k].2 a = true ∧ A.testBit k = true:=fun q1 q2=>r2 (hr (by simp [q1]; omega));by_cases h30 : a = 30
     ·have hb : ((a : Int) == 30) = true:=by simp; omega
      simp only [cond_false,hb,cond_true];refine .inr ⟨_,rfl,⟨s1',⟨(a : Int),(A : Int)⟩ :: D,?_,fun k hk=>?_,fun x hx=>?_⟩,by simp only [List.length_cons]; omega⟩
      ·rcases s2 with s2 | s2
       ·exact .inl (List.mem_cons_of_mem _ s2)
       ·rcases List.mem_cons.1 s2 with q | q
        ·rw [q]; exact .inl (by simp)
        ·exact .inr q
      ·obtain ⟨x,x1,x2⟩:=s3 k hk
       refine ⟨x,x1,?_⟩;rcases x2 with x2 | x2
       ·exact .inl (List.mem_cons_of_mem _ x2)
       ·rcases List.mem_cons.1 x2 with q | q
        ·rw [q]; exact .inl (by simp)
        ·exact .inr q
      ·rcases List.mem_cons.1 hx with q | q
       ·exact ⟨a,A,q,hend,fun hlt=>by omega⟩
       ·exact s4 x q
     ·have hb : ((a : Int) == 30) = false:=by simp; omega
      obtain ⟨m',Q',l1,l2,⟨q,l3,l4⟩,l5⟩:=letters_is (es:=es) (e0:=ed es t a) hL hn he (by omega : a < 30) hA s1' hQ;simp only [cond_false,hb];rw [l1];have hmono : ∀ k ∈ m.map Prod.fst,k ∈ m'.map Prod.fst:=fun k hk=>by rw [l4,List.map_append]; exact List.mem_append_left _ hk
      have hsm':=l2.small;refine .inr ⟨_,rfl,⟨l2,⟨(a : Int),(A : Int)⟩ :: D,?_,fun k hk=>?_,fun x hx=>?_⟩,?_⟩
      ·rcases s2 with s2 | s2
       ·exact .inl (List.mem_cons_of_mem _ s2)
       ·rcases List.mem_cons.1 s2 with q | q
        ·rw [q]; exact .inl (by simp)
        ·refine .inr ?_
         simp only [l3];exact List.mem_append_left _ q
      ·simp only [l4,List.map_append,List.map_map] at hk
       simp only [l3];rcases List.mem_append.1 hk with hk | hk
       ·obtain ⟨x,x1,x2⟩:=s3 k hk
        refine ⟨x,x1,?_⟩;rcases x2 with x2 | x2
        ·exact .inl (List.mem_cons_of_mem _ x2)
        ·rcases List.mem_cons.1 x2 with q | q
         ·rw [q]; exact .inl (by simp)
         ·exact .inr (List.mem_append_left _ q)
       ·rw [List.mem_map] at hk
        obtain ⟨x,x1,x2⟩:=hk;exact ⟨x,x2,.inr (List.mem_append_right _ x1)⟩
      ·rcases List.mem_cons.1 hx with q | q
       ·exact ⟨a,A,q,hend,fun _=>l5⟩
       ·obtain ⟨a',A',x1,x2⟩:=s4 x q
        exact ⟨a',A',x1,x2.mono hmono⟩
      ·have e1 : m'.length = m.length + q.length:=by rw [l4]; simp
       have e2 : Q'.length = Q.length + q.length:=by rw [l3]; simp
       simp only [List.length_cons];omega
    cases hc : (ed es t a && decide ((a : Int) > 0)) with
    | false =>
     simp only [cond_false,Option.bind_some];exact fin false (fun q=>by rw [hc] at q; simp at q) rfl
    | true =>
     simp only [cond_true,Option.bind_some];cases hr : r with
     | false =>
      simp only [Bool.not_false,cond_true];exact .inl ⟨.inr false,rfl,rfl⟩
     | true =>
      simp only [Bool.not_true];exact fin false (fun _=>hr) rfl) ([],[⟨0,((2 ^ L.length - 1 : Nat) : Int)⟩]) ⟨⟨by simp,by simp,fun s hs=>by simp at hs; subst hs; exact ⟨0,2 ^ L.length - 1,rfl,by omega,hI⟩,by simp⟩,[],by simp,by simp,by simp⟩
 have hw : IntKind.wrap .u64 (((2 ^ L.length : Nat) : Int) - 1) = ((2 ^ L.length - 1 : Nat) : Int):=by
  rw [wu64 (by omega) (by omega)]; omega
 simp only [uF91b,PLs_len,shl_is (k:=L.length) (by omega),Option.bind_some,hw,h1,lret];match e,h2 with
 | .inr r,h2=>exact ⟨_,rfl,fun q=>by rw [h2] at q; simp at q⟩
 | .inl _,⟨m,D,d1,d2,d3⟩ =>
  refine ⟨_,rfl,fun _ bs hb hb1 hb2 hmt=>?_⟩;have key : ∀ j,j ≤ bs.length → ∃ A : Nat,(⟨(j : Int),(A : Int)⟩ : uT7) ∈ D ∧ ∀ k,A.testBit k = true → k < L.length ∧ ∀ i (h : i < j) (hi : i < bs.length),hbk L i bs[i] k = true:=by
   intro j;induction j with
   | zero =>
    intro _;refine ⟨_,d1,fun k hk=>⟨?_,fun i h=>by omega⟩⟩;rw [Nat.testBit_two_pow_sub_one] at hk;simpa using hk
   | succ j ih =>
    intro hj;obtain ⟨A,a1,a2⟩:=ih (by omega);obtain ⟨a',A',x1,x2,x3⟩:=d3 _ a1;have x1:=uT7.mk.inj x1;obtain rfl : j = a':=by omega
    obtain rfl : A = A':=by omega
    obtain ⟨B,b1,b2⟩:=x3 (by omega) bs[j] (hb _ (List.getElem_mem _)) (hmt.1 j (by omega));obtain ⟨x,y1,y2⟩:=d2 _ b1;have hx : x = ⟨((j + 1 : Nat) : Int),(B : Int)⟩:=by
     cases x
     simp only [ke] at y1;injection y1 with y1 y3
     rw [y1,y3]
    subst hx;refine ⟨B,y2,fun k hk=>?_⟩;rw [b2 k,Bool.and_eq_true] at hk;obtain ⟨c1,c2⟩:=a2 k hk.1;refine ⟨c1,fun i h hi=>?_⟩;by_cases e : i = j
    ·subst e; exact hk.2
    ·exact c2 i (by omega) hi
  obtain ⟨A,a1,a2⟩:=key bs.length (Nat.le_refl _);obtain ⟨a',A',x1,x2,_⟩:=d3 _ a1;have x1:=uT7.mk.inj x1;obtain rfl : bs.length = a':=by omega
  obtain rfl : A = A':=by omega
  obtain ⟨k,k1,k2,k3⟩:=x2 hmt.2 (by omega);obtain ⟨_,c2⟩:=a2 k k3;refine ⟨L[k],List.getElem_mem k1,fun i hi=>?_,k2⟩
  have:=c2 i hi hi
  simpa [hbk,k1] using this
end
noncomputable def esT (r : uT6) : List Nat × Nat:=open Classical in if h : ∃ q : List Nat × Nat,PGood r.Pattern q.1 q.2 then Classical.choose h else ([],0)
theorem esT_is {r : uT6} (hr : RGood r) : PGood r.Pattern (esT r).1 (esT r).2:=by
 obtain ⟨⟨es,t,h⟩,_⟩:=hr;have hx : ∃ q : List Nat × Nat,PGood r.Pattern q.1 q.2:=⟨(es,t),h⟩;unfold esT;rw [dif_pos hx];exact Classical.choose_spec hx
theorem esT_ok {r : uT6} (hr : RGood r) : POk (esT r):=by
 have h:=esT_is hr;exact ⟨h.2.2.2.1,h.2.2.2.2,h.2.2.1⟩
theorem read_r {r : uT6} (hr : RGood r) : uF79 r.Pattern = some (PT (esT r).1 (esT r).2,0):=read_is (esT_is hr)
noncomputable def ORr (r : uT6) (i : Nat) : Int:=OR (esT r).1 (esT r).2 i
noncomputable def bef (r o : uT6) : Int:=(uF90 (PT (esT r).1 (esT r).2) (PT (esT o).1 (esT o).2)).getD 0
theorem bef_is {r o : uT6} (hr : RGood r) (ho : RGood o) : uF90 (PT (esT r).1 (esT r).2) (PT (esT o).1 (esT o).2) = some (bef r o) ∧ Cmp (ORr r) (ORr o) (bef r o):=by
 obtain ⟨h1,h2,h3⟩:=esT_ok hr;obtain ⟨h4,h5,h6⟩:=esT_ok ho;obtain ⟨k,e1,e2⟩:=before_is h1 h2 h3 h4 h5 h6;have : bef r o = k:=by unfold bef; rw [e1]; rfl
 rw [this];exact ⟨e1,e2⟩
theorem bef_anti {r o : uT6} (hr : RGood r) (ho : RGood o) : bef r o = -bef o r:=Cmp.anti (bef_is hr ho).2 (bef_is ho hr).2
theorem Cmp.zero {o o' : Nat → Int} {k : Int} (h : Cmp o o' k) (hk : k = 0) : ∀ i,o i = o' i:=by
 rcases h with ⟨_,h⟩ | ⟨j,_,h2,h3⟩
 ·exact h
 ·rcases sg_cases (o j) (o' j) with ⟨a,b⟩ | ⟨a,b⟩ | ⟨a,b⟩ <;> omega
theorem Cmp.det {o o' : Nat → Int} {k k' : Int} (h : Cmp o o' k) (h' : Cmp o o' k') : k = k':=by
 rcases h with ⟨rfl,h⟩ | ⟨j,h1,h2,rfl⟩
 ·rcases h' with ⟨rfl,_⟩ | ⟨j',_,h4,_⟩
  ·rfl
  ·exact absurd (h j') h4
 ·rcases h' with ⟨_,h⟩ | ⟨j',h3,h4,rfl⟩
  ·exact absurd (h j) h2
  ·have : j = j':=by
    rcases Nat.lt_trichotomy j j' with hlt | he | hgt
    ·exact absurd (h3 j hlt) h2
    ·exact he
    ·exact absurd (h1 j' hgt) h4
   rw [this]
theorem bef_lt {i k j : uT6} (hi : RGood i) (hk : RGood k) (hj : RGood j) (h1 : bef i k < 0) (h2 : 0 ≤ bef j k) : 0 < bef j i:=by
 have a1:=bef_anti hj hk;have a2:=bef_anti hj hi;rcases (by omega : bef k j < 0 ∨ bef k j = 0) with h | h
 ·have:=Cmp.trans (bef_is hi hk).2 (bef_is hk hj).2 (bef_is hi hj).2 h1 h
  omega
 ·have he:=Cmp.zero (bef_is hk hj).2 h
  have hc : Cmp (ORr i) (ORr k) (bef i j):=by
   have:=(bef_is hi hj).2
   have e2 : ORr j = ORr k:=funext fun n=>(he n).symm;rwa [e2] at this
  have:=Cmp.det (bef_is hi hk).2 hc
  omega

section
variable {p : uT3} {a b : uT4}
theorem fits_is {r : uT6} (hr : RGood r) {bs : List Nat} (hb : ∀ b ∈ bs,b < 12) (hl : bs.length ≤ 100) (at_ : Int) :
  ∃ s w,uF94 (PT (esT r).1 (esT r).2) (bs.map SG) = some (s,w) ∧ (w = true ↔ mt (esT r).1 (esT r).2 bs) ∧ fits a b (bs.map SG) at_ r = (w && cnt a b r.Hours at_):=by
 obtain ⟨h1,h2,_⟩:=esT_ok hr;obtain ⟨s,w,e1,e2,_⟩:=begins2_is h1 h2 bs hb hl;exact ⟨s,w,e1,e2,by simp only [fits,read_r hr,e1]⟩
theorem fits_iff {r : uT6} (hr : RGood r) {bs : List Nat} (hb : ∀ b ∈ bs,b < 12) (hl : bs.length ≤ 100) (at_ : Int) : fits a b (bs.map SG) at_ r = true ↔ mt (esT r).1 (esT r).2 bs ∧ cnt a b r.Hours at_ = true:=by
 obtain ⟨s,w,_,e2,e3⟩:=fits_is (a:=a) (b:=b) hr hb hl at_;rw [e3,Bool.and_eq_true,e2]
def Best (a b : uT4) (R : List uT6) (d : List UInt8) (at_ : Int) (i : Nat) : Prop:=∃ h : i < R.length,fits a b d at_ R[i] = true ∧ ∀ j (hj : j < R.length),fits a b d at_ R[j] = true → 0 ≤ bef R[j] R[i] ∧ (bef R[j] R[i] = 0 → i ≤ j)
theorem decides3_is (hp : p.Hours = [a,b]) (ha : HGood a) (ka : a.Key = kHa) (hb : HGood b) (kb : b.Key = kHb) {c : uT2} (hc : CGood c) {bs : List Nat} (h1 : ∀ b ∈ bs,b < 12) (h2 : bs.length ≤ 100) {at_ : Int} (t1 : 0 ≤ at_) (t2 : at_ ≤ 1000000000) :
  ∃ k,uF78 p c (bs.map SG) at_ = some k ∧ ((k < 0 ∧ c.Rules.any (fits a b (bs.map SG) at_) = false) ∨ ∃ i : Nat,k = (i : Int) ∧ Best a b c.Rules (bs.map SG) at_ i):=by
 obtain ⟨c1,c2,_⟩:=hc;obtain ⟨e,e1,e2⟩:=loopO_ind (step:=fun s : Int × Int × uT1=>uF78a p c (bs.map SG) at_ s.1 s.2.1 s.2.2)
  (fun q=>0 ≤ q.2.1 ∧ q.2.1 ≤ c.Rules.length ∧ ((q.1 = -1 ∧ ∀ j (hj : j < c.Rules.length),(j : Int) < q.2.1 → fits a b (bs.map SG) at_ c.Rules[j] = false) ∨
   ∃ i : Nat,q.1 = (i : Int) ∧ ∃ h : i < c.Rules.length,q.2.2 = PT (esT c.Rules[i]).1 (esT c.Rules[i]).2 ∧ fits a b (bs.map SG) at_ c.Rules[i] = true ∧ (i : Int) < q.2.1 ∧ ∀ j (hj : j < c.Rules.length),(j : Int) < q.2.1 → fits a b (bs.map SG) at_ c.Rules[j] = true → 0 ≤ bef c.Rules[j] c.Rules[i] ∧ (bef c.Rules[j] c.Rules[i] = 0 → i ≤ j)))
  (fun k=>(k < 0 ∧ c.Rules.any (fits a b (bs.map SG) at_) = false) ∨ ∃ i : Nat,k = (i : Int) ∧ Best a b c.Rules (bs.map SG) at_ i) (fun q=>(c.Rules.length - q.2.1).toNat) (fun q hq=>by
   obtain ⟨k,n,m⟩:=q;obtain ⟨q0,q1,q2⟩:=hq;simp only [] at q0 q1 q2;simp only [uF78a];by_cases hlt : n < c.Rules.length
   ·obtain ⟨i,rfl⟩:=Int.eq_ofNat_of_zero_le q0
    have hi : i < c.Rules.length:=by omega
    have hr:=c2 _ (List.getElem_mem hi);obtain ⟨s,w,f1,f2,f3⟩:=fits_is (a:=a) (b:=b) hr h1 h2 at_;obtain ⟨_,_,_,_,_,g2,_⟩:=id hr;have hcn:=counts_is p hp ha ka hb kb g2 t1 t2;simp only [hlt,decide_true,cond_true,idx_at hi,Option.bind_some,read_r hr,f1,hcn]
    -- it does not fit
    have skip : fits a b (bs.map SG) at_ c.Rules[i] = false → (0 ≤ (i : Int) + 1 ∧ (i : Int) + 1 ≤ c.Rules.length ∧ ((k = -1 ∧ ∀ j (hj : j < c.Rules.length),(j : Int) < (i : Int) + 1 → fits a b (bs.map SG) at_ c.Rules[j] = false) ∨
      ∃ i' : Nat,k = (i' : Int) ∧ ∃ h : i' < c.Rules.length,m = PT (esT c.Rules[i']).1 (esT c.Rules[i']).2 ∧ fits a b (bs.map SG) at_ c.Rules[i'] = true ∧ (i' : Int) < (i : Int) + 1 ∧ ∀ j (hj : j < c.Rules.length),(j : Int) < (i : Int) + 1 → fits a b (bs.map SG) at_ c.Rules[j] = true → 0 ≤ bef c.Rules[j] c.Rules[i'] ∧ (bef c.Rules[j] c.Rules[i'] = 0 → i' ≤ j))):=by
     intro hf;refine ⟨by omega,by omega,?_⟩;rcases q2 with ⟨z1,z2⟩ | ⟨i',z1,z2,z3,z4,z5,z6⟩
     ·refine .inl ⟨z1,fun j hj hlt=>?_⟩
      by_cases e : j = i
      ·subst e; exact hf
      ·exact z2 j hj (by omega)
     ·refine .inr ⟨i',z1,z2,z3,z4,by omega,fun j hj hlt hfj=>?_⟩
      by_cases e : j = i
      ·subst e; rw [hf] at hfj; simp at hfj
      ·exact z6 j hj (by omega) hfj
    cases w with
    | false =>
     simp only [Bool.not_false,cond_true,Option.bind_some];rw [w64 (by omega) (by omega)];exact .inr ⟨_,rfl,skip (by rw [f3]; rfl),by (try simp only []); omega⟩
    | true =>
     simp only [Bool.not_true,cond_false,Option.bind_some];cases hcv : cnt a b c.Rules[i].Hours at_ with
     | false =>
      simp only [Bool.not_false,cond_true];rw [w64 (by omega) (by omega)];exact .inr ⟨_,rfl,skip (by rw [f3,hcv]; rfl),by (try simp only []); omega⟩
     | true =>
      have hfit : fits a b (bs.map SG) at_ c.Rules[i] = true:=by rw [f3,hcv]; rfl
      simp only [Bool.not_true,cond_false];rcases q2 with ⟨rfl,z2⟩ | ⟨i',rfl,z2,rfl,z4,z5,z6⟩
      ·simp only [show decide ((-1 : Int) < 0) = true from rfl,cond_true,Option.bind_some]
       rw [w64 (by omega) (by omega)];refine .inr ⟨_,rfl,⟨by (try simp only []); omega,by (try simp only []); omega,.inr ⟨i,rfl,hi,rfl,hfit,by (try simp only []); omega,fun j hj hlt hfj=>?_⟩⟩,by (try simp only []); omega⟩;by_cases e : j = i
       ·subst e
        have:=bef_anti hr hr
        exact ⟨by omega,fun _=>Nat.le_refl _⟩
       ·simp only [] at hlt
        rw [z2 j hj (by omega)] at hfj; simp at hfj
      ·have hr':=c2 _ (List.getElem_mem z2)
       have hneg : decide ((i' : Int) < 0) = false:=by simp
       simp only [hneg,cond_false,(bef_is hr hr').1,Option.bind_some];by_cases hkk : bef c.Rules[i] c.Rules[i'] < 0
       ·simp only [hkk,decide_true,cond_true]
        rw [w64 (by omega) (by omega)];refine .inr ⟨_,rfl,⟨by (try simp only []); omega,by (try simp only []); omega,.inr ⟨i,rfl,hi,rfl,hfit,by (try simp only []); omega,fun j hj hlt hfj=>?_⟩⟩,by (try simp only []); omega⟩;by_cases e : j = i
        ·subst e
         have:=bef_anti hr hr
         exact ⟨by omega,fun _=>Nat.le_refl _⟩
        ·simp only [] at hlt
         have:=bef_lt hr hr' (c2 _ (List.getElem_mem hj)) hkk (z6 j hj (by omega) hfj).1
         exact ⟨by omega,fun q=>by omega⟩
       ·simp only [hkk,decide_false,cond_false]
        rw [w64 (by omega) (by omega)];refine .inr ⟨_,rfl,⟨by (try simp only []); omega,by (try simp only []); omega,.inr ⟨i',rfl,z2,rfl,z4,by (try simp only []); omega,fun j hj hlt hfj=>?_⟩⟩,by (try simp only []); omega⟩;by_cases e : j = i
        ·subst e; exact ⟨by omega,fun _=>by omega⟩
        ·simp only [] at hlt
         exact z6 j hj (by omega) hfj
   ·have hn : n = c.Rules.length:=by omega
    refine .inl ⟨k,by simp [hlt],?_⟩;rcases q2 with ⟨rfl,z2⟩ | ⟨i',rfl,z2,rfl,z4,z5,z6⟩
    ·refine .inl ⟨by omega,?_⟩
     rw [List.any_eq_false];intro r hr;obtain ⟨j,hj,rfl⟩:=List.getElem_of_mem hr;rw [z2 j hj (by omega)];simp
    ·exact .inr ⟨i',rfl,z2,z4,fun j hj hfj=>z6 j hj (by omega) hfj⟩) (-1,0,⟨[],0⟩) ⟨by simp,by simp,.inl ⟨rfl,fun j hj hlt=>by simp only [] at hlt; omega⟩⟩
 exact ⟨e,by simp only [uF78,e1,Option.bind_some],e2⟩

def Dec (a b : uT4) (l : List uT2) (d : List UInt8) (at_ : Int) (h : uT5) : Prop :=
  ∃ ci,∃ hc : ci < l.length,∃ i,∃ hi : i < l[ci].Rules.length,h.Context = l[ci].Key ∧ h.Rule = (i : Int) ∧ h.To = l[ci].Rules[i].To ∧ Best a b l[ci].Rules d at_ i ∧ ∀ cj (hj : cj < l.length),cj < ci → l[cj].Rules.any (fits a b d at_) = false
theorem decide3_loop (hp : p.Hours = [a,b]) (ha : HGood a) (ka : a.Key = kHa) (hb : HGood b) (kb : b.Key = kHb) (l : List uT2) (hl : l.length ≤ 3) (hg : ∀ c ∈ l,CGood c) {bs : List Nat} (h1 : ∀ b ∈ bs,b < 12) (h2 : bs.length ≤ 20) {at_ : Int} (t1 : 0 ≤ at_) (t2 : at_ ≤ 1000000000) (h0 : uT5) :
  ∃ e,loopO (fun s : Int × uT5=>uF29 p (bs.map SG) at_ (l,0) s.1 s.2) (0,h0) = some e ∧ (match e with
   | .inl _=>True
   | .inr r=>r.2 ≠ 0 ∨ Dec a b l (bs.map SG) at_ r.1):=by
 have map_len : ∀ bs : List Nat,(List.length (bs.map SG) : Int) = (bs.length : Int):=fun bs=>by simp
 obtain ⟨e,e1,e2⟩:=loopO_ind (step:=fun s : Int × uT5=>uF29 p (bs.map SG) at_ (l,0) s.1 s.2)
  (fun q=>0 ≤ q.1 ∧ q.1 ≤ l.length ∧ ∀ cj (hj : cj < l.length),(cj : Int) < q.1 → l[cj].Rules.any (fits a b (bs.map SG) at_) = false)
  (fun e=>match e with
   | .inl _=>True
   | .inr r=>r.2 ≠ 0 ∨ Dec a b l (bs.map SG) at_ r.1) (fun q=>(l.length - q.1).toNat) (fun q hq=>by
   obtain ⟨n,h⟩:=q
   obtain ⟨q0,q1,q2⟩:=hq
   simp only [] at q0 q1 q2
   simp only [uF29]
   by_cases hlt : n < l.length
   ·obtain ⟨i,rfl⟩:=Int.eq_ofNat_of_zero_le q0
    have hi : i < l.length:=by omega
    obtain ⟨k,d1,d2⟩:=decides3_is hp ha ka hb kb (hg _ (List.getElem_mem hi)) h1 (by omega) t1 t2
    simp only [hlt,decide_true,cond_true,idx_at hi,Option.bind_some,d1]
    rcases d2 with ⟨hk,hany⟩ | ⟨j,rfl,hbest⟩
    ·simp only [hk,decide_true,cond_true]
     rw [w64 (by omega) (by omega)]
     refine .inr ⟨_,rfl,⟨by (try simp only []); omega,by (try simp only []); omega,fun cj hj hlt=>?_⟩,by (try simp only []); omega⟩
     by_cases e : cj = i
     ·subst e; exact hany
     ·simp only [] at hlt
      exact q2 cj hj (by omega)
    ·have hj:=hbest.1
     obtain ⟨_,g1,g2,_⟩:=(hg _ (List.getElem_mem hi)).2.1 _ (List.getElem_mem hj)
     have hpl : (l[i].Rules[j].Prefix).length ≤ 2:=by rcases g2 with h | h | h <;> rw [h] <;> simp
     have hmin : gmin l[i].Rules[j].Strip (bs.length : Int) ≤ bs.length ∧ 0 ≤ gmin l[i].Rules[j].Strip (bs.length : Int):=by unfold gmin; split <;> omega
     have hsub : sub (bs.map SG) (gmin l[i].Rules[j].Strip (bs.length : Int)) ((bs.map SG).length : Int) = some ((bs.map SG).drop (gmin l[i].Rules[j].Strip (bs.length : Int)).toNat):=by
      unfold sub
      rw [if_pos ⟨hmin.2,by rw [map_len]; exact hmin.1,Int.le_refl _⟩,Int.toNat_natCast,List.take_length]
     rw [map_len] at hsub
     have hneg : decide ((j : Int) < 0) = false:=by simp
     simp only [hneg,cond_false,idx_at hj,Option.bind_some,map_len,hsub]
     rw [sadd_of (by simp; omega)]
     simp only [Option.bind_some]
     have hlen : (decide (((List.length (l[i].Rules[j].Prefix ++ (bs.map SG).drop (gmin l[i].Rules[j].Strip (bs.length : Int)).toNat) : Nat) : Int) > 30)) = false:=by simp; omega
     simp only [hlen,cond_false]
     cases ((l[i].Rules[j].Prefix ++ (bs.map SG).drop (gmin l[i].Rules[j].Strip (bs.length : Int)).toNat) == ([] : List UInt8)) && (l[i].Rules[j].To == 1 || l[i].Rules[j].To == 2) with
     | true=>exact .inl ⟨_,rfl,.inl (by simp)⟩
     | false=>exact .inl ⟨_,rfl,.inr ⟨i,hi,j,hj,rfl,rfl,rfl,hbest,fun cj hcj hlt=>q2 cj hcj (by omega)⟩⟩
   ·exact .inl ⟨.inl h,by simp [hlt],trivial⟩) (0,h0) ⟨by simp,by simp,fun cj hj hlt=>by simp only [] at hlt; omega⟩
 exact ⟨e,e1,e2⟩
end
theorem clone_is (x : List uT1) (h : x.length ≤ 1000) : uF89 x = some x:=by
 have e : app 32 ([] : List uT1) x = some x:=by rw [app_of (by simp; omega) (by simp; omega)]; rfl
 simp only [uF89,e,Option.bind_some];exact nilc_eq fun q=>by rw [q]

def Cov (l : List uT2) (ci i : Nat) : Prop:=∃ hc : ci < l.length,∃ hi : i < l[ci].Rules.length,∀ bs : List Nat,(∀ b ∈ bs,b < 12) → 1 ≤ bs.length → bs.length ≤ 30 → mt (esT l[ci].Rules[i]).1 (esT l[ci].Rules[i]).2 bs →
  (∃ cj,∃ hj : cj < l.length,cj < ci ∧ ∃ r ∈ l[cj].Rules,r.Hours = [] ∧ mt (esT r).1 (esT r).2 bs) ∨
  ∃ k,∃ hk : k < l[ci].Rules.length,l[ci].Rules[k].Hours = [] ∧ (bef l[ci].Rules[k] l[ci].Rules[i] < 0 ∨ bef l[ci].Rules[k] l[ci].Rules[i] = 0 ∧ k < i) ∧ mt (esT l[ci].Rules[k]).1 (esT l[ci].Rules[k]).2 bs
def Hid (l : List uT2) (x : uT5) : Prop:=∃ ci i : Nat,∃ hc : ci < l.length,x.Context = l[ci].Key ∧ x.Rule = (i : Int) ∧ Cov l ci i
def Early (l : List uT2) (ci : Nat) (q : List Nat × Nat) : Prop:=∃ cj,∃ hj : cj < l.length,cj < ci ∧ ∃ r ∈ l[cj].Rules,r.Hours = [] ∧ q = esT r

section
variable {l : List uT2} (hl : l.length ≤ 3) (hg : ∀ c ∈ l,CGood c)
include hl hg
omit hl in
theorem rules_len {ci : Nat} (hc : ci < l.length) : l[ci].Rules.length ≤ 4:=by
 have:=(hg _ (List.getElem_mem hc)).1
 omega
theorem many_is : ∃ m,loopO (fun s : Int × Int=>uF35 (l,0) s.1 s.2) (0,0) = some m ∧ m ≤ 12:=by
 obtain ⟨e,h1,h2⟩:=loopO_ind (step:=fun s : Int × Int=>uF35 (l,0) s.1 s.2)
  (fun q=>0 ≤ q.2 ∧ q.2 ≤ l.length ∧ 0 ≤ q.1 ∧ q.1 ≤ 4 * q.2) (fun e=>e ≤ 12) (fun q=>(l.length - q.2).toNat) (fun q hq=>by
   obtain ⟨m,n⟩:=q;obtain ⟨q0,q1,q2,q3⟩:=hq;simp only [] at q0 q1 q2 q3;simp only [uF35];by_cases hlt : n < l.length
   ·obtain ⟨i,rfl⟩:=Int.eq_ofNat_of_zero_le q0
    have hi : i < l.length:=by omega
    have:=rules_len hg hi
    simp only [hlt,decide_true,cond_true,idx_at hi,Option.bind_some,bnd];rw [w64 (by omega) (by omega),w64 (by omega) (by omega)];exact .inr ⟨_,rfl,⟨by (try simp only []); omega,by (try simp only []); omega,by (try simp only []); omega,by (try simp only []); omega⟩,by (try simp only []); omega⟩
   ·exact .inl ⟨m,by simp [hlt],by omega⟩) (0,0) ⟨by simp,by simp,by simp,by simp⟩
 exact ⟨e,h1,h2⟩

theorem early_is {ci : Nat} (hc : ci < l.length) {E : List (List Nat × Nat)} (hE : E.length ≤ 4 * ci) (hq : ∀ q ∈ E,Early l ci q) :
  ∃ E',loopO (fun s : List uT1 × Int=>uF35d l[ci] s.1 s.2) (PLs E,0) = some (PLs E') ∧ E'.length ≤ 4 * (ci + 1) ∧ ∀ q ∈ E',Early l (ci + 1) q:=by
 have hr4:=rules_len hg hc;obtain ⟨e,h1,E',rfl,h3,h4⟩:=loopO_ind (step:=fun s : List uT1 × Int=>uF35d l[ci] s.1 s.2)
  (fun q=>0 ≤ q.2 ∧ q.2 ≤ l[ci].Rules.length ∧ ∃ E' : List (List Nat × Nat),q.1 = PLs E' ∧ (E'.length : Int) ≤ 4 * ci + q.2 ∧ ∀ q ∈ E',Early l (ci + 1) q)
  (fun e=>∃ E' : List (List Nat × Nat),e = PLs E' ∧ E'.length ≤ 4 * (ci + 1) ∧ ∀ q ∈ E',Early l (ci + 1) q) (fun q=>(l[ci].Rules.length - q.2).toNat) (fun q hq=>by
   obtain ⟨w,n⟩:=q;obtain ⟨q0,q1,E',q2,q3,q4⟩:=hq;simp only [] at q0 q1 q2 q3;subst q2;simp only [uF35d];by_cases hlt : n < l[ci].Rules.length
   ·obtain ⟨i,rfl⟩:=Int.eq_ofNat_of_zero_le q0
    have hi : i < l[ci].Rules.length:=by omega
    have hr:=(hg _ (List.getElem_mem hc)).2.1 _ (List.getElem_mem hi);simp only [hlt,decide_true,cond_true,idx_at hi,Option.bind_some,read_r hr];cases hh : (l[ci].Rules[i].Hours == ([] : List UInt8)) with
    | false =>
     simp only [cond_false];rw [w64 (by omega) (by omega)];exact .inr ⟨_,rfl,⟨by (try simp only []); omega,by (try simp only []); omega,E',rfl,by (try simp only []); omega,q4⟩,by (try simp only []); omega⟩
    | true =>
     have hel : E'.length ≤ 100:=by omega
     simp only [cond_true];rw [app_of (by simp [PLs]; omega) (by simp [PLs]; omega)];simp only [Option.bind_some];rw [w64 (by omega) (by omega)];refine .inr ⟨_,rfl,⟨by (try simp only []); omega,by (try simp only []); omega,E' ++ [esT l[ci].Rules[i]],by simp [PLs],by simp; omega,fun q hq=>?_⟩,by (try simp only []); omega⟩;rcases List.mem_append.1 hq with hq | hq
     ·exact q4 q hq
     ·simp at hq
      exact ⟨ci,hc,by omega,_,List.getElem_mem hi,by simpa using hh,hq⟩
   ·exact .inl ⟨PLs E',by simp [hlt],E',rfl,by omega,q4⟩) (PLs E,0) ⟨by simp,by simp,E,rfl,by simp; omega,fun q hq'=>by
    obtain ⟨cj,hj,h1,h2⟩:=hq q hq';exact ⟨cj,hj,by omega,h2⟩⟩
 exact ⟨E',h1,h3,h4⟩

theorem others_is {ci : Nat} (hc : ci < l.length) {i : Nat} (hi : i < l[ci].Rules.length) {E : List (List Nat × Nat)} (hE : E.length ≤ 4 * ci) (hq : ∀ q ∈ E,Early l ci q) :
  ∃ O : List (List Nat × Nat),loopO (fun s : List uT1 × Int=>uF35c l[ci] (i : Int) (PT (esT l[ci].Rules[i]).1 (esT l[ci].Rules[i]).2,0) s.1 s.2) (PLs E,0) = some (PLs O) ∧ O.length ≤ 12 ∧
   ∀ q ∈ O,Early l ci q ∨ ∃ k,∃ hk : k < l[ci].Rules.length,l[ci].Rules[k].Hours = [] ∧ (bef l[ci].Rules[k] l[ci].Rules[i] < 0 ∨ bef l[ci].Rules[k] l[ci].Rules[i] = 0 ∧ k < i) ∧ q = esT l[ci].Rules[k]:=by
 have hr4:=rules_len hg hc;have hri:=(hg _ (List.getElem_mem hc)).2.1 _ (List.getElem_mem hi);obtain ⟨e,h1,E',rfl,h3,h4⟩:=loopO_ind (step:=fun s : List uT1 × Int=>uF35c l[ci] (i : Int) (PT (esT l[ci].Rules[i]).1 (esT l[ci].Rules[i]).2,0) s.1 s.2)
  (fun q=>0 ≤ q.2 ∧ q.2 ≤ l[ci].Rules.length ∧ ∃ O : List (List Nat × Nat),q.1 = PLs O ∧ (O.length : Int) ≤ 4 * ci + q.2 ∧ ∀ q ∈ O,Early l ci q ∨ ∃ k,∃ hk : k < l[ci].Rules.length,l[ci].Rules[k].Hours = [] ∧ (bef l[ci].Rules[k] l[ci].Rules[i] < 0 ∨ bef l[ci].Rules[k] l[ci].Rules[i] = 0 ∧ k < i) ∧ q = esT l[ci].Rules[k])
  (fun e=>∃ O : List (List Nat × Nat),e = PLs O ∧ O.length ≤ 12 ∧ ∀ q ∈ O,Early l ci q ∨ ∃ k,∃ hk : k < l[ci].Rules.length,l[ci].Rules[k].Hours = [] ∧ (bef l[ci].Rules[k] l[ci].Rules[i] < 0 ∨ bef l[ci].Rules[k] l[ci].Rules[i] = 0 ∧ k < i) ∧ q = esT l[ci].Rules[k]) (fun q=>(l[ci].Rules.length - q.2).toNat) (fun q hq=>by
   obtain ⟨w,n⟩:=q;obtain ⟨q0,q1,E',q2,q3,q4⟩:=hq;simp only [] at q0 q1 q2 q3;subst q2;simp only [uF35c];by_cases hlt : n < l[ci].Rules.length
   ·obtain ⟨k,rfl⟩:=Int.eq_ofNat_of_zero_le q0
    have hk : k < l[ci].Rules.length:=by omega
    have hr:=(hg _ (List.getElem_mem hc)).2.1 _ (List.getElem_mem hk);simp only [hlt,decide_true,cond_true,idx_at hk,Option.bind_some,read_r hr,(bef_is hr hri).1];cases hh : ((l[ci].Rules[k].Hours == ([] : List UInt8)) && (decide (bef l[ci].Rules[k] l[ci].Rules[i] < 0) || (bef l[ci].Rules[k] l[ci].Rules[i] == 0 && decide ((k : Int) < (i : Int))))) with
    | false =>
     simp only [cond_false];rw [w64 (by omega) (by omega)];exact .inr ⟨_,rfl,⟨by (try simp only []); omega,by (try simp only []); omega,E',rfl,by (try simp only []); omega,q4⟩,by (try simp only []); omega⟩
    | true =>
     have hel : E'.length ≤ 100:=by omega
     simp only [cond_true];rw [app_of (by simp [PLs]; omega) (by simp [PLs]; omega)];simp only [Option.bind_some];rw [w64 (by omega) (by omega)];refine .inr ⟨_,rfl,⟨by (try simp only []); omega,by (try simp only []); omega,E' ++ [esT l[ci].Rules[k]],by simp [PLs],by simp; omega,fun q hq=>?_⟩,by (try simp only []); omega⟩;rcases List.mem_append.1 hq with hq | hq
     ·exact q4 q hq
     ·simp at hq
      simp only [Bool.and_eq_true,Bool.or_eq_true,beq_iff_eq,decide_eq_true_eq] at hh;refine .inr ⟨k,hk,hh.1,?_,hq⟩;rcases hh.2 with h | ⟨h,h'⟩
      ·exact .inl h
      ·exact .inr ⟨h,by omega⟩
   ·exact .inl ⟨PLs E',by simp [hlt],E',rfl,by omega,q4⟩) (PLs E,0) ⟨by simp,by simp,E,rfl,by simp; omega,fun q hq'=>.inl (hq q hq')⟩
 exact ⟨E',h1,h3,h4⟩

theorem rules_is {ci : Nat} (hc : ci < l.length) {E : List (List Nat × Nat)} (hE : E.length ≤ 4 * ci) (hq : ∀ q ∈ E,Early l ci q) {H : List uT5} (hH : H.length ≤ 4 * ci) (hh : ∀ x ∈ H,Hid l x) :
  ∃ H',loopO (fun s : List uT1 × List uT5 × Int=>uF35b l[ci] s.1 s.2.1 s.2.2) (PLs E,H,0) = some (PLs E,H') ∧ H'.length ≤ 4 * (ci + 1) ∧ ∀ x ∈ H',Hid l x:=by
 have hr4:=rules_len hg hc;obtain ⟨e,h1,H',rfl,h3,h4⟩:=loopO_ind (step:=fun s : List uT1 × List uT5 × Int=>uF35b l[ci] s.1 s.2.1 s.2.2)
  (fun q=>0 ≤ q.2.2 ∧ q.2.2 ≤ l[ci].Rules.length ∧ q.1 = PLs E ∧ (q.2.1.length : Int) ≤ 4 * ci + q.2.2 ∧ ∀ x ∈ q.2.1,Hid l x)
  (fun e=>∃ H' : List uT5,e = (PLs E,H') ∧ H'.length ≤ 4 * (ci + 1) ∧ ∀ x ∈ H',Hid l x) (fun q=>(l[ci].Rules.length - q.2.2).toNat) (fun q hq'=>by
   obtain ⟨w,H',n⟩:=q;obtain ⟨q0,q1,q2,q3,q4⟩:=hq';simp only [] at q0 q1 q2 q3 q4;subst q2;simp only [uF35b];by_cases hlt : n < l[ci].Rules.length
   ·obtain ⟨i,rfl⟩:=Int.eq_ofNat_of_zero_le q0
    have hi : i < l[ci].Rules.length:=by omega
    have hr:=(hg _ (List.getElem_mem hc)).2.1 _ (List.getElem_mem hi);obtain ⟨O,o1,o2,o3⟩:=others_is hl hg hc hi hE hq;have hO : ∀ q ∈ O,POk q:=fun q hq=>by
     rcases o3 q hq with ⟨cj,hj,_,r,hr,_,rfl⟩ | ⟨k,hk,_,_,rfl⟩
     ·exact esT_ok ((hg _ (List.getElem_mem hj)).2.1 _ hr)
     ·exact esT_ok ((hg _ (List.getElem_mem hc)).2.1 _ (List.getElem_mem hk))
    obtain ⟨p1,p2,_⟩:=esT_ok hr;obtain ⟨v,v1,v2⟩:=covered_is hO o2 p1 p2;have hcl:=clone_is (PLs E) (by simp [PLs]; omega);simp only [hlt,decide_true,cond_true,idx_at hi,Option.bind_some,read_r hr,hcl,o1,v1];cases v with
    | false =>
     simp only [cond_false];rw [w64 (by omega) (by omega)];exact .inr ⟨_,rfl,⟨by (try simp only []); omega,by (try simp only []); omega,rfl,by (try simp only []); omega,q4⟩,by (try simp only []); omega⟩
    | true =>
     have hel : H'.length ≤ 100:=by omega
     simp only [cond_true];rw [app_of (by simp; omega) (by simp; omega)];simp only [Option.bind_some];rw [w64 (by omega) (by omega)];refine .inr ⟨_,rfl,⟨by (try simp only []); omega,by (try simp only []); omega,rfl,by simp; omega,fun x hx=>?_⟩,by (try simp only []); omega⟩;rcases List.mem_append.1 hx with hx | hx
     ·exact q4 x hx
     ·simp at hx
      subst hx;refine ⟨ci,i,hc,rfl,rfl,hc,hi,fun bs b1 b2 b3 hm=>?_⟩;obtain ⟨q,hq,hmq⟩:=v2 rfl bs b1 b2 b3 hm;rcases o3 q hq with ⟨cj,hj,hlt,r,hr,hh,rfl⟩ | ⟨k,hk,hh,hb,rfl⟩
      ·exact .inl ⟨cj,hj,hlt,r,hr,hh,hmq⟩
      ·exact .inr ⟨k,hk,hh,hb,hmq⟩
   ·exact .inl ⟨(PLs E,H'),by simp [hlt],H',rfl,by omega,q4⟩) (PLs E,H,0) ⟨by simp,by simp,rfl,by simp; omega,hh⟩
 exact ⟨H',h1,h3,h4⟩

theorem contexts_is : ∃ H,loopO (fun s : List uT1 × List uT5 × Int=>uF35a (l,0) s.1 s.2.1 s.2.2) ([],[],0) = some H ∧ H.length ≤ 12 ∧ ∀ x ∈ H,Hid l x:=by
 obtain ⟨e,h1,h2⟩:=loopO_ind (step:=fun s : List uT1 × List uT5 × Int=>uF35a (l,0) s.1 s.2.1 s.2.2)
  (fun q=>∃ ci : Nat,q.2.2 = (ci : Int) ∧ ci ≤ l.length ∧ (∃ E : List (List Nat × Nat),q.1 = PLs E ∧ E.length ≤ 4 * ci ∧ ∀ q ∈ E,Early l ci q) ∧ q.2.1.length ≤ 4 * ci ∧ ∀ x ∈ q.2.1,Hid l x)
  (fun e=>e.length ≤ 12 ∧ ∀ x ∈ e,Hid l x) (fun q=>(l.length - q.2.2).toNat) (fun q hq=>by
   obtain ⟨w,H,n⟩:=q;obtain ⟨ci,q0,q1,⟨E,q2,q3,q4⟩,q5,q6⟩:=hq;simp only [] at q0 q1 q2 q5 q6;subst q0; subst q2;simp only [uF35a];by_cases hc : ci < l.length
   ·have hd : (decide (((ci : Nat) : Int) < (l.length : Int))) = true:=by simp; exact hc
    obtain ⟨H',r1,r2,r3⟩:=rules_is hl hg hc q3 q4 q5 q6;obtain ⟨E',s1,s2,s3⟩:=early_is hl hg hc q3 q4;simp only [hd,cond_true,idx_at hc,Option.bind_some,r1,s1];rw [w64 (by omega) (by omega)];exact .inr ⟨_,rfl,⟨ci + 1,by (try simp only []); omega,by omega,⟨E',rfl,s2,s3⟩,r2,r3⟩,by (try simp only []); omega⟩
   ·exact .inl ⟨H,by simp [hc],by omega,q6⟩) ([],[],0) ⟨0,rfl,by omega,⟨[],rfl,by simp,by simp⟩,by simp,by simp⟩
 exact ⟨e,h1,h2⟩
end
section
variable {p : uT3} {a b : uT4} {R0 R1 R2 : List uT6} {I0 I1 : List (List UInt8)} {most : Int}
def ctxF (R0 R1 R2 : List uT6) (I0 I1 : List (List UInt8)) (x : Int) : uT2:=if x = 0 then ⟨kca,R0,I0⟩ else if x = 1 then ⟨kcb,R1,I1⟩ else ⟨kcc,R2,[]⟩
theorem open_is3 (h : PlanOk p a b R0 R1 R2 I0 I1 most) : ∃ l,uF88a p kca = some (l,0) ∧ (∀ c ∈ l,CGood c ∧ c ∈ p.Contexts) ∧ l.length ≤ 3 ∧ (l.map (·.Key)).Nodup:=by
 obtain ⟨h1,o,h2,h3,h0,h4,hn⟩:=check_is h;obtain ⟨rfl,r0,r1,r2,i0,i1,ha,ka,hb,kb,hm⟩:=h;have hat : uF148 ⟨[⟨kca,R0,I0⟩,⟨kcb,R1,I1⟩,⟨kcc,R2,[]⟩],[a,b]⟩ kca = some 0:=by
  rw [contextAt_is _ _ (by simp)]; rfl
 have hg : ∀ i,i = 0 ∨ i = 1 ∨ i = 2 → idx [⟨kca,R0,I0⟩,⟨kcb,R1,I1⟩,⟨kcc,R2,[]⟩] i = some (ctxF R0 R1 R2 I0 I1 i) ∧ CGood (ctxF R0 R1 R2 I0 I1 i) ∧ ctxF R0 R1 R2 I0 I1 i ∈ [(⟨kca,R0,I0⟩ : uT2),⟨kcb,R1,I1⟩,⟨kcc,R2,[]⟩]:=by
  rintro i (rfl | rfl | rfl)
  ·exact ⟨rfl,r0.up hm,by simp [ctxF]⟩
  ·exact ⟨rfl,r1.up hm,by simp [ctxF]⟩
  ·exact ⟨rfl,r2.up hm,by simp [ctxF]⟩
 have hl:=loop_list (step:=fun s : List uT2 × Int=>uF88 ⟨[⟨kca,R0,I0⟩,⟨kcb,R1,I1⟩,⟨kcc,R2,[]⟩],[a,b]⟩ o s.1 s.2) o (fun i (s : List uT2)=>(s,(i : Int)))
  (fun _ i s=>(idx [(⟨kca,R0,I0⟩ : uT2),⟨kcb,R1,I1⟩,⟨kcc,R2,[]⟩] i).bind fun c=>(app 64 s [c]).bind fun s'=>some (.inl s')) id (fun i x s hi=>by
   have hlt:=(List.getElem?_eq_some_iff.1 hi).1;have hd : (decide (((i : Nat) : Int) < (o.length : Int))) = true:=by simpa using hlt
   simp only [uF88,hd,cond_true,idx_nat,hi,Option.bind_some];cases idx [(⟨kca,R0,I0⟩ : uT2),⟨kcb,R1,I1⟩,⟨kcc,R2,[]⟩] x with
   | none=>rfl
   | some c =>
    simp only [Option.bind_some];cases app 64 s [c] with
    | none=>rfl
    | some s'=>simp only [Option.bind_some]; rw [w64 (by omega) (by omega)]; rfl) (fun s=>by simp [uF88]) []
 obtain ⟨l,e1,e2⟩:=foldE_ind (f:=fun _ i (s : List uT2)=>(idx [(⟨kca,R0,I0⟩ : uT2),⟨kcb,R1,I1⟩,⟨kcc,R2,[]⟩] i).bind fun c=>(app 64 s [c]).bind fun s'=>some (Sum.inl s' : List uT2 ⊕ List uT2)) (fin:=id)
  (fun i s=>s = (o.take i).map (ctxF R0 R1 R2 I0 I1)) (fun l=>l = o.map (ctxF R0 R1 R2 I0 I1)) o 0 [] rfl (fun j x s hj q1=>by
   obtain ⟨c1,_,_⟩:=hg x (h4 x (List.mem_of_getElem? hj));obtain ⟨hlt,hx⟩:=List.getElem?_eq_some_iff.1 hj;rw [Nat.zero_add] at q1;have hs : s.length ≤ 3:=by rw [q1]; simp; omega
   refine .inl ⟨s ++ [ctxF R0 R1 R2 I0 I1 x],?_,?_⟩
   ·simp only [c1,Option.bind_some]
    rw [app_of (by simp; omega) (by simp; omega)]; rfl
   ·rw [Nat.zero_add,List.take_succ_eq_append_getElem hlt,List.map_append,← q1,hx]; rfl) (fun s q1=>by
   rw [Nat.zero_add,List.take_length] at q1;exact q1)
 subst e2;rw [e1] at hl;refine ⟨o.map (ctxF R0 R1 R2 I0 I1),?_,fun c hc=>?_,by simpa using h3,?_⟩
 ·simp only [uF88a,h1,Option.bind_some,bne_self_eq_false,cond_false,hat,show decide ((0 : Int) < 0) = false from rfl,h2]
  have hl : loopO (fun s : List uT2 × Int=>uF88 ⟨[⟨kca,R0,I0⟩,⟨kcb,R1,I1⟩,⟨kcc,R2,[]⟩],[a,b]⟩ o s.1 s.2) ([],0) = some (o.map (ctxF R0 R1 R2 I0 I1)):=hl;rw [hl]; rfl
 ·rw [List.mem_map] at hc
  obtain ⟨i,hi,rfl⟩:=hc;exact (hg i (h4 i hi)).2
 ·rw [List.map_map]
  refine nodup_map hn fun x hx y hy e=>?_;have n1 : kca ≠ kcb:=by decide
  have n2 : kca ≠ kcc:=by decide
  have n3 : kcb ≠ kcc:=by decide
  rcases h4 x hx with rfl | rfl | rfl <;> rcases h4 y hy with rfl | rfl | rfl <;> first | rfl | (exfalso; simp [ctxF] at e; first | exact n1 e | exact n2 e | exact n3 e | exact n1 e.symm | exact n2 e.symm | exact n3 e.symm)
theorem ctx_at (h : PlanOk p a b R0 R1 R2 I0 I1 most) {c : uT2} (hc : c ∈ p.Contexts) : ∃ j : Nat,idxI (fun x=>x.Key == c.Key) p.Contexts = (j : Int) ∧ idx p.Contexts (j : Int) = some c:=by
 rw [h.p] at hc ⊢;simp only [List.mem_cons,List.not_mem_nil,or_false] at hc;rcases hc with rfl | rfl | rfl
 ·exact ⟨0,rfl,rfl⟩
 ·exact ⟨1,rfl,rfl⟩
 ·exact ⟨2,rfl,rfl⟩
theorem idxHit_is (l : List uT5) (g : uT5 → Option Bool) (p : uT5 → Bool) (hg : ∀ a ∈ l,g a = some (p a)) (hl : l.length ≤ 4611686018427387904) : uF92 l g = some (idxI p l):=idxF_loop l g p hg hl
theorem containsHit_is (l : List uT5) (g : uT5 → Option Bool) (p : uT5 → Bool) (hg : ∀ a ∈ l,g a = some (p a)) (hl : l.length ≤ 4611686018427387904) : uF38 l g = some (l.any p):=by
 simp only [uF38,idxHit_is l g p hg hl,Option.bind_some,bnd,idxI_any]
theorem errs_is : uF15a [0,0] = some 0:=by
 have h1 : uF15 [0,0] 0 = some (.inl 1):=by kernel_rfl
 have h2 : uF15 [0,0] 1 = some (.inl 2):=by kernel_rfl
 have h3 : uF15 [0,0] 2 = some (.inr (.inl ())):=by kernel_rfl
 have : loopO (fun s : Int=>uF15 [0,0] s) 0 = some (.inl ()):=by
  rw [loop2 (s':=1) h1,loop2 (s':=2) h2,loop3 h3]
 simp only [uF15a,this,lret]
theorem before2_is {r o : uT6} (hr : RGood r) (ho : RGood o) : uF41 r.Pattern o.Pattern = some (bef r o,0):=by
 simp only [uF41,read_r hr,read_r ho,Option.bind_some,bne_self_eq_false,cond_false,(bef_is hr ho).1]
theorem matches_is {r : uT6} (hr : RGood r) {bs : List Nat} (hb : ∀ b ∈ bs,b < 12) (h1 : 1 ≤ bs.length) (h2 : bs.length ≤ 30) : ∃ w,uF40 r.Pattern (bs.map SG) = some (w,0) ∧ (w = true ↔ mt (esT r).1 (esT r).2 bs):=by
 obtain ⟨s,w,e1,e2,_⟩:=fits_is (a:=⟨[],0,[],[]⟩) (b:=⟨[],0,[],[]⟩) hr hb (by omega) 0;refine ⟨w,?_,e2⟩;simp only [uF40,read_r hr,Option.bind_some,bne_self_eq_false,cond_false,isDialled_is bs hb h1 h2,Bool.not_true,e1]
theorem cnt_nil (at_ : Int) : cnt a b [] at_ = true:=by unfold cnt; rw [if_pos rfl]

theorem not_hidden {l : List uT2} (hg : ∀ c ∈ l,CGood c) (hk : (l.map (·.Key)).Nodup) {bs : List Nat} (hb : ∀ b ∈ bs,b < 12) (h1 : 1 ≤ bs.length) (h2 : bs.length ≤ 30) {at_ : Int} {h x : uT5} (hd : Dec a b l (bs.map SG) at_ h) (hx : Hid l x) : (x.Context == h.Context && x.Rule == h.Rule) = false:=by
 cases hq : (x.Context == h.Context && x.Rule == h.Rule) with
 | false=>rfl
 | true =>
  exfalso;simp only [Bool.and_eq_true,beq_iff_eq] at hq;obtain ⟨ci,hc,i,hi,d1,d2,_,⟨_,d4,d5⟩,d6⟩:=hd;obtain ⟨ci',i',hc',x1,x2,_,hi',x3⟩:=hx;have e1 : l[ci'].Key = l[ci].Key:=by rw [← x1,← d1]; exact hq.1
  have e2 : i' = i:=by have:=hq.2; rw [x2,d2] at this; omega
  have e3 : ci' = ci:=by
   unfold List.Nodup at hk;rw [List.pairwise_map,List.pairwise_iff_getElem] at hk;rcases Nat.lt_trichotomy ci' ci with q | q | q
   ·exact absurd e1 (hk _ _ hc' hc q)
   ·exact q
   ·exact absurd e1.symm (hk _ _ hc hc' q)
  subst e3; subst e2;have hr:=(hg _ (List.getElem_mem hc)).2.1;have hm:=((fits_iff (a:=a) (b:=b) (hr _ (List.getElem_mem hi)) hb (by omega) at_).1 d4).1;rcases x3 bs hb h1 h2 hm with ⟨cj,hj,y1,r,y2,y3,y4⟩ | ⟨k,hk2,y1,y2,y3⟩
  ·have hf : fits a b (bs.map SG) at_ r = true:=(fits_iff ((hg _ (List.getElem_mem hj)).2.1 _ y2) hb (by omega) at_).2 ⟨y4,by rw [y3]; exact cnt_nil _⟩
   have:=d6 cj hj y1
   rw [List.any_eq_false] at this;exact this r y2 hf
  ·have hf : fits a b (bs.map SG) at_ l[ci'].Rules[k] = true:=(fits_iff (hr _ (List.getElem_mem hk2)) hb (by omega) at_).2 ⟨y3,by rw [y1]; exact cnt_nil _⟩
   obtain ⟨z1,z2⟩:=d5 k hk2 hf;rcases y2 with y2 | ⟨y2,y4⟩
   ·omega
   ·have:=z2 y2; omega
end

theorem dialled2_is (s0 : uT0) (k : Int) (hs : SOk s0 k) (hk : k ≤ 1000) : ∃ s' d bs,uF26 s0 = some (s',d) ∧ DGood d bs ∧ SOk s' (k + 7):=by
 obtain ⟨m,e1,m1,m2⟩:=range_is s0 1 6 _ hs (by omega) (by omega) (by omega) (by omega);obtain ⟨e,h1,⟨bs,h2,h3,h4,h5⟩,h6⟩:=loopO_ind (step:=fun s : List UInt8 × Int × uT0=>uF26a (⟨s0.L,s0.at_ + 1⟩,m) s.1 s.2.1 s.2.2)
  (fun q=>0 ≤ q.2.1 ∧ q.2.1 ≤ m ∧ (∃ bs : List Nat,q.1 = bs.map SG ∧ (bs.length : Int) = q.2.1 ∧ ∀ b ∈ bs,b < 12) ∧ SOk q.2.2 (k + 1 + q.2.1))
  (fun e=>(∃ bs : List Nat,e.1 = bs.map SG ∧ 1 ≤ bs.length ∧ bs.length ≤ 6 ∧ ∀ b ∈ bs,b < 12) ∧ SOk e.2 (k + 7)) (fun q=>(6 - q.2.1).toNat) (fun q hq=>by
   obtain ⟨l,n,s⟩:=q;obtain ⟨q0,q1,⟨bs,rfl,q2,q3⟩,q4⟩:=hq;simp only [] at q0 q1 q2 q3 q4;simp only [uF26a];by_cases hlt : n < m
   ·obtain ⟨r,f1,r1⟩:=some_in s [[49],[50],[50],[51],[57],[48],[42],[35]] _ q4 (by omega) (by simp) (by simp)
    obtain ⟨b,hb,rfl⟩ : ∃ b,b < 12 ∧ r = [SG b]:=by
     simp only [List.mem_cons,List.not_mem_nil,or_false] at r1;rcases r1 with rfl | rfl | rfl | rfl | rfl | rfl | rfl | rfl
     ·exact ⟨3,by omega,rfl⟩
     ·exact ⟨4,by omega,rfl⟩
     ·exact ⟨4,by omega,rfl⟩
     ·exact ⟨5,by omega,rfl⟩
     ·exact ⟨11,by omega,rfl⟩
     ·exact ⟨2,by omega,rfl⟩
     ·exact ⟨1,by omega,rfl⟩
     ·exact ⟨0,by omega,rfl⟩
    have hd : (decide (n < m)) = true:=by simpa using hlt
    refine .inr ⟨((bs ++ [b]).map SG,n + 1,⟨s.L,s.at_ + 1⟩),?_,⟨by (try simp only []); omega,by (try simp only []); omega,⟨bs ++ [b],rfl,by simp; omega,fun x hx=>?_⟩,q4.one.up (by (try simp only []); omega)⟩,by (try simp only []); omega⟩
    ·rw [hd]; simp only [cond_true,f1,Option.bind_some]
     rw [sadd_of (by simp; omega),w64 (by omega) (by omega)]; simp
    ·rcases List.mem_append.1 hx with hx | hx
     ·exact q3 x hx
     ·simp at hx; omega
   ·exact .inl ⟨(bs.map SG,s),by simp [hlt],⟨bs,rfl,by omega,by omega,q3⟩,q4.up (by omega)⟩) ([],0,⟨s0.L,s0.at_ + 1⟩) ⟨by simp,by simp; omega,⟨[],rfl,by simp,by simp⟩,hs.one.up (by (try simp only []); omega)⟩
 obtain ⟨l,s⟩:=e;simp only [] at h2 h6;subst h2;refine ⟨s,_,bs,?_,⟨rfl,h3,h4,h5⟩,h6⟩;simp only [uF26,bnd,e1,Option.bind_some,h1]

theorem law_HiddenNeverDecide (l : List Int) (hl : l.length ≤ 4611686018427387904) : uF7b l = some true:=by
 have s0 : SOk ⟨l,0⟩ 0:=⟨hl,by (try simp only []); omega,by (try simp only []); omega⟩;obtain ⟨s1,p,a,b,R0,R1,R2,I0,I1,e1,hp,x1⟩:=plan_is ⟨l,0⟩ 4 (by omega) (by omega) 0 s0 (by omega);obtain ⟨at_,e3,a1⟩:=pick_in s1 [0,32400000,432000000] _ x1 (by omega) (by simp) (by simp);have hat : 0 ≤ at_ ∧ at_ ≤ 432000000:=by simp at a1; omega
 obtain ⟨L,o1,o2,o3,o4⟩:=open_is3 hp;have hg : ∀ c ∈ L,CGood c:=fun c hc=>(o2 c hc).1;have hh : p.Hours = [a,b]:=by rw [hp.p]
 have hlen : p.Contexts.length ≤ 4611686018427387904:=by rw [hp.p]; simp
 obtain ⟨m,m1,m2⟩:=many_is o3 hg;obtain ⟨H,c1,c2,c3⟩:=contexts_is o3 hg;have o1':=o1;unfold kca at o1';have eh : uF35e p [99,97] = some (H,0):=by
  have hm : (decide (m > 12)) = false:=by simp; omega
  simp only [uF35e,o1',Option.bind_some,bne_self_eq_false,cond_false,m1,hm,c1]
 have dec : ∀ bs : List Nat,(∀ b ∈ bs,b < 12) → 1 ≤ bs.length → bs.length ≤ 20 → ∃ h f,uF29a p [99,97] (bs.map SG) at_ = some (h,f) ∧ (f ≠ 0 ∨ Dec a b L (bs.map SG) at_ h):=by
  intro bs b1 b2 b3;obtain ⟨e,f1,f2⟩:=decide3_loop hh hp.ha hp.ka hp.hb hp.kb L o3 hg b1 b3 hat.1 (by omega) ⟨[],0,0,[],[]⟩;have hmo : uF70 at_ = some true:=by
   have q1 : at_ ≥ 0:=hat.1;have q2 : at_ < 345686400000:=by omega
   simp [uF70,bnd,q1,q2]
  have hask : uF77 p [99,97] (bs.map SG) at_ = some (L,0):=by
   simp only [uF77,o1',Option.bind_some,bne_self_eq_false,cond_false,isDialled_is bs b1 b2 (by omega),Bool.not_true,hmo]
  simp only [uF29a,hask,Option.bind_some,bne_self_eq_false,cond_false,f1,lret];match e,f2 with
  | .inl _,_=>exact ⟨_,_,rfl,.inl (by decide)⟩
  | .inr r,f2=>exact ⟨r.1,r.2,rfl,f2⟩
 obtain ⟨e,g1,g2⟩:=loopO_ind (step:=fun s : Int × uT0=>uF7a (s1,p) (⟨s1.L,s1.at_ + 1⟩,at_) (H,0) s.1 s.2)
  (fun q=>0 ≤ q.1 ∧ q.1 ≤ 6 ∧ SOk q.2 (300 + 7 * q.1)) (fun e=>e = .inl ()) (fun q=>(6 - q.1).toNat) (fun q hq=>by
   obtain ⟨n,s⟩:=q;obtain ⟨q0,q1,q2⟩:=hq;simp only [] at q0 q1 q2;simp only [uF7a];by_cases hlt : n < 6
   ·obtain ⟨s',y,bs,f1,⟨rfl,b2,b3,b1⟩,f2⟩:=dialled2_is s _ q2 (by omega)
    obtain ⟨h,f,k1,k2⟩:=dec bs b1 b2 (by omega);simp only [hlt,decide_true,cond_true,f1,Option.bind_some,k1];have next : ∃ s'_1,(some (Sum.inl (IntKind.wrap .i64 (n + 1),s')) : Option ((Int × uT0) ⊕ (Unit ⊕ Bool))) = some (.inl s'_1) ∧ (0 ≤ s'_1.1 ∧ s'_1.1 ≤ 6 ∧ SOk s'_1.2 (300 + 7 * s'_1.1)) ∧ (6 - s'_1.1).toNat < (6 - n).toNat:=by
     rw [w64 (by omega) (by omega)];exact ⟨_,rfl,⟨by (try simp only []); omega,by (try simp only []); omega,f2.up (by (try simp only []); omega)⟩,by (try simp only []); omega⟩
    by_cases hf : f = 0
    ·subst hf
     have hd : Dec a b L (bs.map SG) at_ h:=by rcases k2 with q | q; exact absurd rfl q; exact q
     obtain ⟨ci,hc,i,hi,d1,d2,d3,hbest,d6⟩:=id hd;obtain ⟨_,d4,d5⟩:=id hbest;obtain ⟨j,j1,j2⟩:=ctx_at hp (o2 _ (List.getElem_mem hc)).2;have hix : uF36 p.Contexts (fun a0=>uF37 a0 h) = some (j : Int):=by
      rw [idxCtx_is p.Contexts (fun a0=>uF37 a0 h) (fun c=>c.Key == h.Context) (fun _ _=>rfl) hlen,d1,j1]
     have hct : uF38 H (fun a0=>uF39 a0 h) = some false:=by
      rw [containsHit_is H (fun a0=>uF39 a0 h) (fun x=>x.Context == h.Context && x.Rule == h.Rule) (fun _ _=>rfl) (by omega)];congr 1;rw [List.any_eq_false];intro x hx;rw [not_hidden hg o4 b1 b2 (by omega) hd (c3 x hx)];simp
     have hr:=(hg _ (List.getElem_mem hc)).2.1;have hri:=hr _ (List.getElem_mem hi);obtain ⟨w,w1,w2⟩:=matches_is hri b1 b2 (by omega);have hw : w = true:=w2.2 ((fits_iff (a:=a) (b:=b) hri b1 (by omega) at_).1 d4).1;subst hw;have n1 : (decide ((j : Int) < 0)) = false:=by simp
     have n2 : (decide ((i : Int) < 0)) = false:=by simp
     have n3 : (decide ((i : Int) ≥ (L[ci].Rules.length : Int))) = false:=by simp; omega
     have hto : (L[ci].Rules[i].To != h.To) = false:=by rw [d3]; simp
     simp only [bne_self_eq_false,cond_false,hix,d2,n1,n2,Bool.or_false,j2,Option.bind_some,n3,hct,idx_at hi,w1,Bool.not_true,hto];have hloop : loopO (fun s : Int=>uF7 (s',bs.map SG) L[ci].Rules[i] L[ci] s) 0 = some (.inl ()):=by
      obtain ⟨e,t1,t2⟩:=loopO_ind (step:=fun s : Int=>uF7 (s',bs.map SG) L[ci].Rules[i] L[ci] s)
       (fun q=>0 ≤ q ∧ q ≤ L[ci].Rules.length) (fun e=>e = .inl ()) (fun q=>(L[ci].Rules.length - q).toNat) (fun q hq=>by
        obtain ⟨q0,q1⟩:=hq;have hr4:=rules_len hg hc;simp only [uF7];by_cases hlt : q < L[ci].Rules.length
        ·obtain ⟨k,rfl⟩:=Int.eq_ofNat_of_zero_le q0
         have hk : k < L[ci].Rules.length:=by omega
         have hrk:=hr _ (List.getElem_mem hk);obtain ⟨v,v1,v2⟩:=matches_is hrk b1 b2 (by omega);have hz : ((v && decide (bef L[ci].Rules[k] L[ci].Rules[i] < 0)) && (L[ci].Rules[k].Hours == ([] : List UInt8))) = false:=by
          cases hq : ((v && decide (bef L[ci].Rules[k] L[ci].Rules[i] < 0)) && (L[ci].Rules[k].Hours == ([] : List UInt8))) with
          | false=>rfl
          | true =>
           exfalso;simp only [Bool.and_eq_true,decide_eq_true_eq,beq_iff_eq] at hq
           have:=(d5 k hk ((fits_iff hrk b1 (by omega) at_).2 ⟨v2.1 hq.1.1,by rw [hq.2]; exact cnt_nil _⟩)).1
           omega
         simp only [hlt,decide_true,cond_true,idx_at hk,Option.bind_some,v1,before2_is hrk hri,errs_is,bne_self_eq_false,Bool.false_or,hz,cond_false];rw [w64 (by omega) (by omega)];exact .inr ⟨_,rfl,⟨by omega,by omega⟩,by omega⟩
        ·exact .inl ⟨.inl (),by simp [hlt],rfl⟩) 0 ⟨by omega,by omega⟩
      rw [t1,t2]
     simp only [hloop,lret];exact .inr next
    ·have hf2 : (f != 0) = true:=by simpa using hf
     simp only [hf2,cond_true];exact .inr next
   ·exact .inl ⟨.inl (),by simp [hlt],rfl⟩) (0,⟨s1.L,s1.at_ + 1⟩) ⟨by simp,by simp,x1.one.up (by (try simp only []); omega)⟩
 subst g2;simp only [uF7b,e1,Option.bind_some,e3,eh,bne_self_eq_false,cond_false,g1,lret];rfl
end Go.Proofs.YtagbgmkocjfanaaGreatDoor
