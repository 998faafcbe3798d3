/-
  WordsOf: what the functions that it calls give.
-/
import Derived.Test.YtameabpbghichaaGreatDoorHM3Aa
import Derived.Test.YtameabpbghichaaGreatDoorHM3Absc
namespace Go.Proofs.YtameabpbghichaaGreatDoor
open Go Go.Abs
theorem bl_trans : ∀ {x y z : List UInt8},Op.bytesLess x y = true → Op.bytesLess y z = true → Op.bytesLess x z = true
  | _,_,[],_,h=>by simp [Op.bytesLess] at h
  | _,[],_ :: _,h,_=>by simp [Op.bytesLess] at h
  | [],_ :: _,_ :: _,_,_=>by simp [Op.bytesLess]
  | a :: x,b :: y,c :: z,h1,h2=>by
    simp only [Op.bytesLess,Bool.or_eq_true,decide_eq_true_eq,Bool.and_eq_true,beq_iff_eq] at h1 h2 ⊢
    rcases h1 with h1 | ⟨rfl,h1⟩
    · rcases h2 with h2 | ⟨rfl,_⟩
      · exact .inl (UInt8.lt_trans h1 h2)
      · exact .inl h1
    · rcases h2 with h2 | ⟨rfl,h2⟩
      · exact .inl h2
      · exact .inr ⟨rfl,bl_trans h1 h2⟩
theorem bl_tot : ∀ {x y : List UInt8},Op.bytesLess x y = false → (x == y) = false → Op.bytesLess y x = true
  | [],[],_,h=>by simp at h
  | _ :: _,[],_,_=>by simp [Op.bytesLess]
  | [],_ :: _,h,_=>by simp [Op.bytesLess] at h
  | a :: x,b :: y,h,hne=>by
    simp only [Op.bytesLess,Bool.or_eq_true,decide_eq_true_eq,Bool.and_eq_true,beq_iff_eq]
    simp only [Op.bytesLess,Bool.or_eq_false_iff,decide_eq_false_iff_not,Bool.and_eq_false_iff,beq_eq_false_iff_ne] at h
    by_cases e : a = b
    · subst e
      refine .inr ⟨rfl,bl_tot ?_ ?_⟩
      · rcases h.2 with h | h
        · exact absurd rfl h
        · exact h
      · simpa using hne
    · refine .inl ?_
      have h1 : ¬ a < b:=h.1
      rcases Nat.lt_trichotomy a.toNat b.toNat with q | q | q
      · exact absurd (UInt8.lt_iff_toNat_lt.2 q) h1
      · exact absurd (UInt8.toNat_inj.1 q) e
      · exact UInt8.lt_iff_toNat_lt.2 q
theorem bl_irr : ∀ x : List UInt8,Op.bytesLess x x = false
  | []=>rfl
  | a :: x=>by simp [Op.bytesLess,bl_irr x]
theorem wless_tri : ∀ {a b : List (List UInt8)},wless a b = false → wless b a = false → a = b
  | [],[],_,_=>rfl
  | [],_ :: _,h,_=>by simp [wless] at h
  | _ :: _,[],_,h=>by simp [wless] at h
  | a :: x,b :: y,h1,h2=>by
    simp only [wless,Bool.or_eq_false_iff,Bool.and_eq_false_iff,beq_eq_false_iff_ne] at h1 h2
    by_cases e : a = b
    · subst e
      rw [wless_tri (h1.2.resolve_left (by simp)) (h2.2.resolve_left (by simp))]
    · have:=bl_tot h1.1 (by simpa using e)
      rw [h2.1] at this
      simp at this
theorem minW_uniq {S : List (List UInt8) → Prop} {a b : List (List UInt8)} (ha : minW S a) (hb : minW S b) : a = b:=wless_tri (hb.2 a ha.1) (ha.2 b hb.1)
theorem ways_succ {s : List UInt8} {l : List (List UInt8)} {n : Nat} {q : Int} {o : Option (List (List UInt8))} (h1 : ∀ c,o = some c → minW (moreW s l (waysW s l n) q) c) (h2 : o = none → ∀ c,¬ moreW s l (waysW s l n) q c) : waysW s l (n + 1) q = o:=by
  simp only [waysW]
  cases o with
  | none =>
    rw [dif_neg]
    rintro ⟨c,hc⟩
    exact h2 rfl c hc.1
  | some c =>
    have hex : ∃ c,minW (moreW s l (waysW s l n) q) c:=⟨c,h1 c rfl⟩
    rw [dif_pos hex,minW_uniq hex.choose_spec (h1 c rfl)]

theorem pre_eq (a b : List UInt8) : uF37 a b = some (decide (b <+: a)):=by
  have key : uF88 a b = some (decide (b <+: a)):=by
    unfold uF88
    by_cases h : (b.length : Int) ≤ a.length
    · have hs : sub a 0 (b.length : Int) = some (a.take b.length):=by
        unfold sub
        rw [if_pos ⟨Int.le_refl _,by omega,h⟩]
        simp
      have e : decide ((a.length : Int) ≥ b.length) = true:=by simpa using h
      rw [e,hs]
      simp only [cond_true,Option.bind_some,Option.some.injEq]
      rw [Bool.eq_iff_iff]
      simp only [beq_iff_eq,decide_eq_true_eq]
      rw [List.prefix_iff_eq_take]
      exact ⟨fun h=>h.symm,fun h=>h.symm⟩
    · have e : decide ((a.length : Int) ≥ b.length) = false:=by simpa using h
      rw [e]
      simp only [cond_false,Option.bind_some,Option.some.injEq]
      symm
      rw [decide_eq_false_iff_not]
      intro hp
      have:=hp.length_le
      omega
  unfold uF37
  rw [key]
  rfl
theorem clone_eq {l : List (List UInt8)} (h : l.length ≤ 1000000) : uF43 l = some l:=by
  unfold uF43
  rw [app_of (by simp; omega) (by simp; omega)]
  rw [nilc_eq (fun e=>by subst e; rfl)]
  rfl
theorem cmp1 (x y : List UInt8) : uF99 x y = some (if Op.bytesLess x y then -1 else if x == y then 0 else 1):=by
  unfold uF99
  have e : ∀ z,uF115 z = some false:=fun z=>by simp [uF115,bnd]
  rw [e,e]
  cases h1 : Op.bytesLess x y <;> cases h2 : x == y <;> simp
theorem cmpL {a b : List (List UInt8)} (ha : a.length ≤ 1000000) : ∃ r,uF44a a b = some r ∧ decide (r < 0) = wless a b:=by
  unfold uF44a
  have key : ∀ d i : Nat,i + d = a.length → i ≤ b.length → a.take i = b.take i →
      (∃ r,loopO (fun s : Int=>uF44 a b s) (i : Int) = some (.inr r) ∧ decide (r < 0) = wless (a.drop i) (b.drop i)) ∨ (loopO (fun s : Int=>uF44 a b s) (i : Int) = some (.inl ()) ∧ decide (a.length < b.length) = wless (a.drop i) (b.drop i)):=by
    intro d
    induction d with
    | zero =>
      intro i hi hb _
      right
      rw [loopO_eq]
      have h0 : uF44 a b (i : Int) = some (.inr (.inl ())):=by
        unfold uF44
        rw [show decide ((i : Int) < (a.length : Int)) = false by simp; omega]
        rfl
      rw [h0]
      refine ⟨rfl,?_⟩
      rw [List.drop_of_length_le (by omega : a.length ≤ i)]
      cases hd : b.drop i with
      | nil =>
        have:=congrArg List.length hd
        simp only [List.length_drop,List.length_nil] at this
        simp only [wless,decide_eq_false_iff_not]
        omega
      | cons y t =>
        have:=congrArg List.length hd
        simp only [List.length_drop,List.length_cons] at this
        simp only [wless,decide_eq_true_eq]
        omega
    | succ d ih =>
      intro i hi hb ht
      have hia : i < a.length:=by omega
      have hda : a.drop i = a[i] :: a.drop (i + 1):=List.drop_eq_getElem_cons hia
      rw [loopO_eq]
      by_cases hib : i < b.length
      · have hdb : b.drop i = b[i] :: b.drop (i + 1):=List.drop_eq_getElem_cons hib
        have h0 : uF44 a b (i : Int) = if Op.bytesLess a[i] b[i] then some (.inr (.inr (-1))) else if a[i] == b[i] then some (.inl ((i + 1 : Nat) : Int)) else some (.inr (.inr 1)):=by
          unfold uF44
          rw [show decide ((i : Int) < (a.length : Int)) = true by simpa using hia,idx_at hia,idx_at hib]
          simp only [cond_true,Option.bind_some]
          rw [show decide ((i : Int) ≥ (b.length : Int)) = false by simpa using hib,cmp1]
          simp only [cond_false,Option.bind_some]
          cases h1 : Op.bytesLess a[i] b[i] with
          | true=>simp
          | false =>
            cases h2 : a[i] == b[i] with
            | true =>
              simp only [Bool.false_eq_true,if_false,if_true,bne_self_eq_false,cond_false]
              rw [w64 (by omega) (by omega)]
              rfl
            | false=>simp
        rw [h0,hda,hdb]
        simp only [wless]
        cases h1 : Op.bytesLess a[i] b[i] with
        | true =>
          left
          exact ⟨-1,rfl,rfl⟩
        | false =>
          cases h2 : a[i] == b[i] with
          | true =>
            have he : a[i] = b[i]:=by simpa using h2
            simp only [Bool.false_eq_true,if_false,if_true,Bool.false_or,Bool.true_and]
            exact ih (i + 1) (by omega) (by omega) (by rw [List.take_succ_eq_append_getElem hia,List.take_succ_eq_append_getElem hib,ht,he])
          | false =>
            left
            exact ⟨1,rfl,rfl⟩
      · have h0 : uF44 a b (i : Int) = some (.inr (.inr 1)):=by
          unfold uF44
          rw [show decide ((i : Int) < (a.length : Int)) = true by simpa using hia,idx_at hia]
          simp only [cond_true,Option.bind_some]
          rw [show decide ((i : Int) ≥ (b.length : Int)) = true by simp; omega]
          rfl
        rw [h0,hda,List.drop_of_length_le (by omega : b.length ≤ i)]
        left
        exact ⟨1,rfl,rfl⟩
  rcases key a.length 0 (by omega) (by omega) (by simp) with ⟨r,h1,h2⟩ | ⟨h1,h2⟩
  · refine ⟨r,?_,by simpa using h2⟩
    have h1 : loopO (fun s : Int=>uF44 a b s) (0 : Int) = some (.inr r):=h1
    rw [h1]
    rfl
  · have h1 : loopO (fun s : Int=>uF44 a b s) (0 : Int) = some (.inl ()):=h1
    rw [h1]
    simp only [List.drop_zero] at h2
    by_cases hl : a.length < b.length
    · refine ⟨-1,?_,by rw [← h2]; simp [hl]⟩
      simp only [lret]
      rw [show decide ((a.length : Int) < (b.length : Int)) = true by simpa using hl]
      rfl
    · refine ⟨0,?_,by rw [← h2]; simp [hl]⟩
      simp only [lret]
      rw [show decide ((a.length : Int) < (b.length : Int)) = false by simp; omega]
      rfl
end Go.Proofs.YtameabpbghichaaGreatDoor
