/-
  TopKeysDialled: the law.
-/
import Derived.Test.YtagbgmkocjfanaaGreatDoorHM6Pb
import Derived.Test.YtagbgmkocjfanaaGreatDoorHM6PKc
import Derived.Test.YtagbgmkocjfanaaGreatDoorHM6PKd
namespace Go.Proofs.YtagbgmkocjfanaaGreatDoor
open Go Go.Abs
set_option maxRecDepth 100000
set_option maxHeartbeats 1000000
theorem trim_all (l c : List UInt8) (h : Lib.trimS l c = []) : ∀ x ∈ l, c.contains x = true := by
 have dw : ∀ l : List UInt8, l.dropWhile (c.contains ·) = [] → ∀ x ∈ l, c.contains x = true := by
  intro l;induction l with
  | nil => intro _ x hx; simp at hx
  | cons a l ih =>
   intro h x hx;by_cases ha : c.contains a = true
   ·rw [List.dropWhile_cons_of_pos ha] at h
    rcases List.mem_cons.1 hx with rfl | hx
    ·exact ha
    ·exact ih h x hx
   ·rw [List.dropWhile_cons_of_neg ha] at h; cases h
 have hd : ∀ (l : List UInt8) (a : UInt8) (t : List UInt8), l.dropWhile (c.contains ·) = a :: t → c.contains a = false := by
  intro l;induction l with
  | nil => intro a t h; cases h
  | cons b l ih =>
   intro a t h;by_cases hb : c.contains b = true
   ·rw [List.dropWhile_cons_of_pos hb] at h; exact ih a t h
   ·rw [List.dropWhile_cons_of_neg hb] at h
    injection h with h1 h2;subst h1;simpa using hb
 unfold Lib.trimS Lib.trimLeftS Lib.trimRightS at h;have h1 := dw _ h;match hD : l.reverse.dropWhile (c.contains ·) with
 | [] => intro x hx; exact dw _ hD x (List.mem_reverse.2 hx)
 | a :: t =>
  have h2 := hd _ _ _ hD;have h3 := h1 a (by rw [hD]; simp);rw [h2] at h3; cases h3
theorem sg_of {x : UInt8} (h : ([35, 42, 48, 49, 50, 51, 52, 53, 54, 55, 56, 57] : List UInt8).contains x = true) : ∃ b, b < 12 ∧ x = SG b := by
 have : x ∈ ([35, 42, 48, 49, 50, 51, 52, 53, 54, 55, 56, 57] : List UInt8) := by simpa using h
 simp only [List.mem_cons, List.not_mem_nil, or_false] at this;rcases this with rfl | rfl | rfl | rfl | rfl | rfl | rfl | rfl | rfl | rfl | rfl | rfl
 ·exact ⟨0, by omega, rfl⟩
 ·exact ⟨1, by omega, rfl⟩
 ·exact ⟨2, by omega, rfl⟩
 ·exact ⟨3, by omega, rfl⟩
 ·exact ⟨4, by omega, rfl⟩
 ·exact ⟨5, by omega, rfl⟩
 ·exact ⟨6, by omega, rfl⟩
 ·exact ⟨7, by omega, rfl⟩
 ·exact ⟨8, by omega, rfl⟩
 ·exact ⟨9, by omega, rfl⟩
 ·exact ⟨10, by omega, rfl⟩
 ·exact ⟨11, by omega, rfl⟩
theorem sgs_of : ∀ l : List UInt8, (∀ x ∈ l, ([35, 42, 48, 49, 50, 51, 52, 53, 54, 55, 56, 57] : List UInt8).contains x = true) → ∃ bs : List Nat, l = bs.map SG ∧ ∀ b ∈ bs, b < 12
 | [], _ => ⟨[], rfl, by simp⟩
 | a :: l, h => by
  obtain ⟨b, hb, rfl⟩ := sg_of (h a List.mem_cons_self)
  obtain ⟨bs, rfl, hbs⟩ := sgs_of l fun x hx => h x (List.mem_cons_of_mem _ hx)
  exact ⟨b :: bs, rfl, fun x hx => by
   rcases List.mem_cons.1 hx with rfl | hx
   ·exact hb
   ·exact hbs x hx⟩
theorem dialled_or (t : List UInt8) (hl : t.length ≤ 20) : (∃ bs : List Nat, t = bs.map SG ∧ (∀ b ∈ bs, b < 12) ∧ 1 ≤ bs.length) ∨ uF93 t 1 = some false := by
 by_cases h1 : 1 ≤ t.length
 ·have c1 : (decide (((List.length t : Nat) : Int) ≥ 1)) = true := by simp; omega
  have c2 : (decide (((List.length t : Nat) : Int) ≤ 30)) = true := by simp; omega
  have hok : trimOk t [35, 42, 48, 49, 50, 51, 52, 53, 54, 55, 56, 57] = true := by
   have : t.length ≤ 9223372036854775807 := by omega
   simp only [trimOk, decide_eq_true this, Bool.true_and]; rfl
  by_cases ht : Lib.trimS t [35, 42, 48, 49, 50, 51, 52, 53, 54, 55, 56, 57] = []
  ·obtain ⟨bs, rfl, hb⟩ := sgs_of t (trim_all _ _ ht)
   exact .inl ⟨bs, rfl, hb, by simpa using h1⟩
  ·refine .inr ?_
   simp only [uF93, c1, c2, Bool.and_self, cond_true, uF132, hok, if_true, Option.bind_some];congr 1;simpa using ht
 ·refine .inr ?_
  have c1 : (decide (((List.length t : Nat) : Int) ≥ 1)) = false := by simp; omega
  simp only [uF93, c1, Bool.false_and, cond_false, Option.bind_some]
theorem txt_len (gs : List Grp) : (txtL gs).length = gs.length := by simp [txtL]

section
variable {p : uT1} {a b : uT3} {R0 R1 R2 : List uT4} {I0 I1 : List (List UInt8)} {most : Int}
theorem decide_is (h : PlanOk p a b R0 R1 R2 I0 I1 most) (t : List UInt8) (hl : t.length ≤ 20) : ∃ r, uF29 p [99, 97] t 0 = some r := by
 rcases dialled_or t hl with ⟨bs, rfl, h1, h2⟩ | hd
 ·obtain ⟨L, l1, l2, _, l3⟩ := ask_is h
  have hh : p.Hours = [a, b] := by rw [h.p]
  have hb : bs.length ≤ 20 := by simpa using hl
  obtain ⟨e, f1, f2⟩ := decide_loop hh h.ha h.ka h.hb h.kb L l2 (fun c hc => (l1 c hc).1) (L, 0) rfl h1 hb (Int.le_refl 0) (by omega) ⟨[], 0, 0, [], []⟩
  have := l3 bs 0 h1 h2 (by omega) (Int.le_refl 0) (by omega)
  unfold kca at this;simp only [uF29, this, Option.bind_some, bne_self_eq_false, cond_false, f1, lret];match e, f2 with
  | .inl _, _ => exact ⟨_, rfl⟩
  | .inr r, _ => exact ⟨_, rfl⟩
 ·obtain ⟨l, h1, _⟩ := open_is2 h
  unfold kca at h1;have : uF77 p [99, 97] t 0 = some ([], 3) := by
   simp only [uF77, h1, Option.bind_some, bne_self_eq_false, cond_false, hd, Bool.not_false, cond_true]
  simp only [uF29, this, Option.bind_some];exact ⟨_, rfl⟩
end
theorem law_TopKeysDialled (l : List Int) (hl : l.length ≤ 4611686018427387904) : uF6 l = some true := by
 have hs : SOk ⟨l, 0⟩ 0 := ⟨hl, Int.le_refl _, Int.le_refl _⟩;obtain ⟨n, e1, n1, n2⟩ := range_is ⟨l, 0⟩ 0 4 0 hs (by omega) (by omega) (by omega) (by omega);obtain ⟨gs, s', e2, g1, g2, g3⟩ := sent_is (⟨l, 0 + 1⟩, n) ⟨l, 0 + 1⟩ 1 hs.one (by omega) ⟨n1, n2⟩;have hlen := sndL_len gs g2;have hok := snd_ok q_is gs g2;have eS := small_is (sndL gs) (by omega) (snd_good gs g2) hok;have eG := great_is (sndL gs) (by omega) hok;have hml : (sndM gs).length ≤ 20000 := by rw [← sndM_is, List.length_map]; omega
 have e3 := runs_is ok_is ok_zero gs [] [] 0 g2 (by simp; omega) (by simp; omega);have e4 := checkS_is (sndM gs) hml (by rw [← sndM_is]; exact mod_good _ hok);rw [List.nil_append, List.nil_append] at e3;have eT : uF30a ⟨l, 0⟩ = some (s', sndL gs, txtL gs) := by
  unfold uF30a;simp only [bnd, e1, Option.bind_some];rw [e2];rfl
 have eK : uF33a (sndM gs) = some (txtL gs, 0) := by
  unfold uF33a;simp only [bnd, e4, Option.bind_some, bne_self_eq_false, cond_false];rw [show (([] : List Int), (-1 : Int), (0 : Int), (0 : Int)) = ([], -1, 0, ((([] : List Int).length : Nat) : Int)) from rfl, e3];simp only [Option.bind_some, bytes_back]
 obtain ⟨s1, p, a, b, R0, R1, R2, I0, I1, e5, hp, x1⟩ := plan_is s' 3 (by omega) (by omega) _ g3 (by omega);obtain ⟨r, eD⟩ := decide_is hp (txtL gs) (by rw [txt_len]; omega);unfold uF6;simp only [eT, Option.bind_some, eS, eG];rw [sndM_is];simp only [eK, Option.bind_some, bne_self_eq_false, Bool.or_self, beq_self_eq_true, Bool.not_true, cond_false, e5, eD, Bool.and_self, cond_true];simp [uF34]
end Go.Proofs.YtagbgmkocjfanaaGreatDoor
