/-
  Plain lemmas for laws over the printed functions: loops, numbers, lists.
-/
import Derived.Test.YtcbepglkfglclaaDoorHAbsG1
namespace Go.Abs

/-- A loop comes to its end. -/
theorem loopO_ind {S E : Type} {step : S → Option (S ⊕ E)} (P : S → Prop) (Q : E → Prop) (m : S → Nat)
    (h : ∀ s, P s → (∃ e, step s = some (.inr e) ∧ Q e) ∨ ∃ s', step s = some (.inl s') ∧ P s' ∧ m s' < m s) : ∀ s, P s → ∃ e, loopO step s = some e ∧ Q e := by
  have key : ∀ n s, m s = n → P s → ∃ e, loopO step s = some e ∧ Q e := by
    intro n
    induction n using Nat.strongRecOn with
    | _ n ih =>
      intro s hs hP
      rcases h s hP with ⟨e, h1, h2⟩ | ⟨s', h1, h2, h3⟩
      · exact ⟨e, by rw [loopO_eq, h1], h2⟩
      · obtain ⟨e, h4, h5⟩ := ih (m s') (by omega) s' rfl h2
        exact ⟨e, by rw [loopO_eq, h1]; exact h4, h5⟩
  exact fun s hP => key _ s rfl hP

/-- A loop whose counter runs over the places of a list. -/
theorem loop_for {S E : Type} {step : S → Option (S ⊕ E)} {N : Nat} (st : Nat → S) (e : E) (h1 : ∀ k, k < N → step (st k) = some (.inl (st (k + 1)))) (h2 : step (st N) = some (.inr e)) : loopO step (st 0) = some e := by
  have key : ∀ d k, k + d = N → loopO step (st k) = some e := by
    intro d
    induction d with
    | zero => intro k hk; obtain rfl : k = N := by omega
              rw [loopO_eq, h2]
    | succ d ih => intro k hk; rw [loopO_eq, h1 k (by omega)]; exact ih (k + 1) (by omega)
  exact key N 0 (by omega)

theorem idx_nat {α : Type} (l : List α) (k : Nat) : idx l (k : Int) = l[k]? := by simp [idx]
theorem idx_at {α : Type} {l : List α} {k : Nat} (h : k < l.length) : idx l (k : Int) = some l[k] := by simp [idx, h]
theorem idx_of {α : Type} {l : List α} {n : Int} (h0 : 0 ≤ n) (h : n < l.length) : ∃ x, idx l n = some x ∧ x ∈ l := by
  have : n.toNat < l.length := by omega
  exact ⟨l[n.toNat], by simp [idx, h0, this], List.getElem_mem _⟩
theorem w64 {n : Int} (h1 : -9223372036854775808 ≤ n) (h2 : n ≤ 9223372036854775807) : IntKind.wrap .i64 n = n := wrap_i64 h1 h2
theorem wu8 {n : Int} (h1 : 0 ≤ n) (h2 : n ≤ 255) : IntKind.wrap .u8 n = n := wrap_u8 h1 h2
theorem app_of {α : Type} {b : Nat} {l m : List α} (h : (l.length + m.length) * b ≤ 17592186044416) (h2 : l.length + m.length ≤ 17592186044416) : app b l m = some (l ++ m) := by simp [app, h, h2]
theorem mkN_of {α : Type} {b : Nat} {n : Int} {x : α} (h0 : 0 ≤ n) (h : b * n.toNat ≤ 70368744177664) (h2 : n ≤ 70368744177664) : mkN b n x = some (List.replicate n.toNat x) := by simp [mkN, h0, h, h2]
theorem emod_tmod (x n : Int) (hn : 1 ≤ n) : x % n = if x.tmod n < 0 then x.tmod n + n else x.tmod n := by
  have hlt : x.tmod n < n := Int.tmod_lt_of_pos _ (by omega)
  have hgt : -n < x.tmod n := by
    have := Int.tmod_lt_of_pos (-x) (b := n) (by omega)
    rw [Int.neg_tmod] at this; omega
  have he : x = n * (x.tdiv n) + x.tmod n := (Int.mul_tdiv_add_tmod x n).symm
  have h1 : x % n = (x.tmod n) % n := by
    conv => lhs; rw [he]
    exact Int.mul_add_emod_self_left ..
  rw [h1]
  split
  · rw [← Int.add_emod_right, Int.emod_eq_of_lt (by omega) (by omega)]
  · exact Int.emod_eq_of_lt (by omega) hlt

/-- A list of which the first k were replaced. -/
def mapk {α : Type} (f : α → α) (l : List α) (k : Nat) : List α := (l.take k).map f ++ l.drop k
section
variable {α β : Type}
theorem mapk_zero (f : α → α) (l : List α) : mapk f l 0 = l := by simp [mapk]
theorem mapk_all (f : α → α) (l : List α) : mapk f l l.length = l.map f := by simp [mapk]
theorem mapk_length (f : α → α) (l : List α) (k : Nat) : (mapk f l k).length = l.length := by simp [mapk]; omega
theorem mapk_idx (f : α → α) (l : List α) (k : Nat) (h : k < l.length) : idx (mapk f l k) (k : Int) = some l[k] := by
  rw [idx_nat, mapk, List.getElem?_append_right (by simp; omega)]
  simp [Nat.min_eq_left (Nat.le_of_lt h), h]
theorem take_len {γ : Type} (g : α → γ) (l : List α) (k : Nat) (h : k ≤ l.length) : ((l.take k).map g).length = k := by simp; omega
theorem mapk_set (f : α → α) (l : List α) (k : Nat) (h : k < l.length) : (mapk f l k).set k (f l[k]) = mapk f l (k + 1) := by
  unfold mapk
  have hl := take_len f l k (by omega)
  rw [List.set_append_right _ _ (by omega), hl, Nat.sub_self, List.take_succ_eq_append_getElem h, List.drop_eq_getElem_cons h]
  simp only [List.set_cons_zero, List.map_append, List.map_cons, List.map_nil, List.append_assoc, List.singleton_append]
/-- A new list of which the first k are made. -/
def newk (f : α → β) (z : β) (l : List α) (k : Nat) : List β := (l.take k).map f ++ List.replicate (l.length - k) z
theorem newk_zero (f : α → β) (z : β) (l : List α) : newk f z l 0 = List.replicate l.length z := by simp [newk]
theorem newk_all (f : α → β) (z : β) (l : List α) : newk f z l l.length = l.map f := by simp [newk]
theorem newk_length (f : α → β) (z : β) (l : List α) (k : Nat) (h : k ≤ l.length) : (newk f z l k).length = l.length := by simp [newk]; omega
theorem newk_idx (f : α → β) (z : β) (l : List α) (k : Nat) (h : k < l.length) : idx (newk f z l k) (k : Int) = some z := by
  have hl := take_len f l k (by omega)
  rw [idx_nat, newk, List.getElem?_append_right (by omega), hl, Nat.sub_self, List.getElem?_replicate, if_pos (by omega)]
theorem newk_set (f : α → β) (z : β) (l : List α) (k : Nat) (h : k < l.length) : (newk f z l k).set k (f l[k]) = newk f z l (k + 1) := by
  unfold newk
  have hl := take_len f l k (by omega)
  obtain ⟨d, hd⟩ : ∃ d, l.length - k = d + 1 := ⟨l.length - k - 1, by omega⟩
  have hd2 : l.length - (k + 1) = d := by omega
  rw [hd, hd2, List.set_append_right _ _ (by omega), hl, Nat.sub_self, List.take_succ_eq_append_getElem h, List.replicate_succ]
  simp only [List.set_cons_zero, List.map_append, List.map_cons, List.map_nil, List.append_assoc, List.singleton_append]
end
end Go.Abs
