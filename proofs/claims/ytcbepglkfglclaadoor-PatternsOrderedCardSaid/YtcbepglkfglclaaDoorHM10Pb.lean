/-
  PatternsOrdered: the order of patterns.
-/
import Derived.Test.YtcbepglkfglclaaDoorHM10P
namespace Go.Proofs.YtcbepglkfglclaaDoor
open Go Go.Abs
set_option maxRecDepth 100000
set_option maxHeartbeats 1000000

/-- What an element's set is written as; how special a place is. -/
def rss : List (List UInt8) := [[49], [50], [57], [48], [42], [48, 49, 50, 51, 52, 53, 54, 55, 56, 57], [50, 51, 52, 53, 54, 55, 56, 57], [49, 50, 51, 52, 53, 54, 55, 56, 57], [49, 50], [50, 51, 52], [49, 50, 51, 53], [50, 57]]
def RS (e : Nat) : List UInt8 := rss.getD e []
def RK (c : Nat) : Int × List UInt8 := if c < 12 then (((RS c).length : Int), RS c) else if c = 12 then (100, []) else if c = 13 then (101, []) else (102, [])
def tco (t : Nat) : Nat := if t = 0 then 13 else if t = 1 then 12 else 14
def code (es : List Nat) (t : Nat) (i : Nat) : Nat := if i < es.length then es.getD i 0 else if i = es.length then tco t else 13
theorem rs_all : (List.range 12).all (fun e => loopF (fun s : List UInt8 × Int => F127_dialplan_pattern_rank_l0 (MK e) s.1 s.2) 16 ([], 0) == some (RS e)) = true := by kernel_rfl
theorem rs_is {e : Nat} (he : e < 12) : loopO (fun s : List UInt8 × Int => F127_dialplan_pattern_rank_l0 (MK e) s.1 s.2) ([], 0) = some (RS e) := by
  have := List.all_eq_true.1 rs_all e (List.mem_range.2 he)
  exact loopO_of (n := 16) (by simpa using this)
theorem sets_len (es : List Nat) (t : Nat) : ((List.length (PT es t).sets : Nat) : Int) = (es.length : Int) := by simp [PT]
theorem rank_is {es : List Nat} {t : Nat} (h : ∀ e ∈ es, e < 12) (ht : t < 3) (i : Nat) : F127_dialplan_pattern_rank (PT es t) (i : Int) = some (RK (code es t i)) := by
  simp only [F127_dialplan_pattern_rank, bnd, sets_len]
  by_cases hi : i < es.length
  · have hd : (decide (((i : Nat) : Int) < (es.length : Int))) = true := by simp; exact hi
    have hm : i < (es.map MK).length := by simpa using hi
    have he := h _ (List.getElem_mem hi)
    have hidx : idx (PT es t).sets (i : Int) = some (MK es[i]) := by
      show idx (es.map MK) (i : Int) = _
      rw [idx_at hm]; simp
    have hc : code es t i = es[i] := by simp [code, hi]
    simp only [hd, cond_true, hidx, Option.bind_some, rs_is he, hc, RK, he, if_true]
  · have hd : (decide (((i : Nat) : Int) < (es.length : Int))) = false := by simp; omega
    simp only [hd, cond_false]
    by_cases hn : i = es.length
    · have hb : (((i : Nat) : Int) == (es.length : Int)) = true := by simp [hn]
      simp only [hb, Bool.true_and]
      have hc : code es t i = tco t := by simp [code, hn]
      rw [hc]
      rcases (by omega : t = 0 ∨ t = 1 ∨ t = 2) with rfl | rfl | rfl <;> rfl
    · have hb : (((i : Nat) : Int) == (es.length : Int)) = false := by simp; omega
      have hc : code es t i = 13 := by simp [code, hi, hn]
      simp only [hb, Bool.false_and, cond_false, hc]
      rfl
def sg (a b : Int) : Int := if a < b then -1 else if b < a then 1 else 0
theorem cmp_is (a b : Int) : F129_cmp_Compare_int a b = some (sg a b) := by
  have hn : ∀ x : Int, F137_cmp_isNaN_int x = some false := fun x => by simp [F137_cmp_isNaN_int, bnd]
  simp only [F129_cmp_Compare_int, hn, Option.bind_some, cond_false, sg]
  by_cases h1 : a < b
  · simp [h1]
  · by_cases h2 : b < a
    · have h3 : a > b := h2
      simp [h1, h2]
    · have h3 : ¬ a > b := h2
      simp [h1, h2]
theorem or_is (a b : Int) : F128_cmp_Or_int [a, b] = some (if a = 0 then b else a) := by
  have e0 : idx ([a, b] : List Int) 0 = some a := rfl
  have e1 : idx ([a, b] : List Int) 1 = some b := rfl
  have hl : ((List.length ([a, b] : List Int) : Nat) : Int) = 2 := rfl
  by_cases ha : a = 0
  · subst ha
    by_cases hb : b = 0
    · subst hb
      have : loopO (fun s : Int => F128_cmp_Or_int_l0 [0, 0] s) 0 = some (.inl ()) :=
        (loop2 (s' := 1) (by rfl)).trans ((loop2 (s' := 2) (by rfl)).trans (loop3 (by rfl)))
      simp [F128_cmp_Or_int, this, lret]
    · have hbb : (b != 0) = true := by simpa using hb
      have s1 : F128_cmp_Or_int_l0 [0, b] 1 = some (.inr (.inr b)) := by
        simp only [F128_cmp_Or_int_l0, hl, e1, Option.bind_some, hbb, cond_true]; rfl
      have : loopO (fun s : Int => F128_cmp_Or_int_l0 [0, b] s) 0 = some (.inr b) := (loop2 (s' := 1) (by rfl)).trans (loop3 s1)
      simp [F128_cmp_Or_int, this, lret]
  · have haa : (a != 0) = true := by simpa using ha
    have s1 : F128_cmp_Or_int_l0 [a, b] 0 = some (.inr (.inr a)) := by
      simp only [F128_cmp_Or_int_l0, hl, e0, Option.bind_some, haa, cond_true]; rfl
    have : loopO (fun s : Int => F128_cmp_Or_int_l0 [a, b] s) 0 = some (.inr a) := loop3 s1
    simp [F128_cmp_Or_int, this, lret, ha]
/-- The order of places. -/
def ords : List Int := [2, 3, 4, 1, 0, 11, 9, 10, 5, 7, 8, 6, 12, 13, 14]
def ORD (c : Nat) : Int := ords.getD c 0
def cR (c d : Nat) : Int := if sg (RK c).1 (RK d).1 = 0 then Lib.compareBytes (RK c).2 (RK d).2 else sg (RK c).1 (RK d).1
theorem cR_all : (List.range 15).all (fun c => (List.range 15).all fun d => decide (cR c d = sg (ORD c) (ORD d)) && (decide (c = d) == decide (ORD c = ORD d))) = true := by kernel_rfl
theorem cR_is {c d : Nat} (hc : c < 15) (hd : d < 15) : cR c d = sg (ORD c) (ORD d) ∧ (ORD c = ORD d → c = d) := by
  have := List.all_eq_true.1 (List.all_eq_true.1 cR_all c (List.mem_range.2 hc)) d (List.mem_range.2 hd)
  simp only [Bool.and_eq_true, decide_eq_true_eq, beq_iff_eq] at this
  refine ⟨this.1, fun h => ?_⟩
  have h2 := this.2
  rw [decide_eq_true h] at h2
  exact of_decide_eq_true h2
theorem code_lt {es : List Nat} {t : Nat} (h : ∀ e ∈ es, e < 12) (i : Nat) : code es t i < 15 := by
  unfold code tco
  split
  · rename_i hi
    have := h _ (List.getElem_mem hi)
    simp [hi]; omega
  · split
    · split <;> (try split) <;> omega
    · omega
/-- What two patterns compare to. -/
def Cmp (o o' : Nat → Int) (k : Int) : Prop := (k = 0 ∧ ∀ i, o i = o' i) ∨ (∃ j, (∀ i, i < j → o i = o' i) ∧ o j ≠ o' j ∧ k = sg (o j) (o' j))
def OR (es : List Nat) (t : Nat) (i : Nat) : Int := ORD (code es t i)
theorem before_is {es es' : List Nat} {t t' : Nat} (h : ∀ e ∈ es, e < 12) (ht : t < 3) (hl : es.length ≤ 4) (h' : ∀ e ∈ es', e < 12) (ht' : t' < 3) (hl' : es'.length ≤ 4) :
    ∃ k, F83_dialplan_before (PT es t) (PT es' t') = some k ∧ Cmp (OR es t) (OR es' t') k := by
  obtain ⟨e, h1, h2⟩ := loopO_ind (step := fun s : Int => F83_dialplan_before_l0 (PT es t) (PT es' t') s)
    (fun q => 0 ≤ q ∧ q ≤ gmax (es.length : Int) (es'.length : Int) + 1 ∧ ∀ i : Nat, (i : Int) < q → OR es t i = OR es' t' i)
    (fun e => match e with
      | .inl _ => Cmp (OR es t) (OR es' t') 0
      | .inr k => Cmp (OR es t) (OR es' t') k) (fun q => (gmax (es.length : Int) (es'.length : Int) + 1 - q).toNat) (fun q hq => by
      obtain ⟨q0, q1, q2⟩ := hq
      simp only [F83_dialplan_before_l0, sets_len]
      have hmx : (es.length : Int) ≤ gmax (es.length : Int) (es'.length : Int) ∧ (es'.length : Int) ≤ gmax (es.length : Int) (es'.length : Int) ∧ gmax (es.length : Int) (es'.length : Int) ≤ 4 := by unfold gmax; split <;> omega
      by_cases hlt : q ≤ gmax (es.length : Int) (es'.length : Int)
      · obtain ⟨i, rfl⟩ := Int.eq_ofNat_of_zero_le q0
        have hd : (decide (((i : Nat) : Int) ≤ gmax (es.length : Int) (es'.length : Int))) = true := by simpa using hlt
        obtain ⟨c1, c2⟩ := cR_is (code_lt (t := t) h i) (code_lt (t := t') h' i)
        have hs : F114_strings_Compare (RK (code es t i)).2 (RK (code es' t' i)).2 = some (Lib.compareBytes (RK (code es t i)).2 (RK (code es' t' i)).2) := rfl
        simp only [hd, cond_true, rank_is h ht, rank_is h' ht', Option.bind_some, cmp_is, hs, or_is, bnd]
        have hv : (if sg (RK (code es t i)).1 (RK (code es' t' i)).1 = 0 then Lib.compareBytes (RK (code es t i)).2 (RK (code es' t' i)).2 else sg (RK (code es t i)).1 (RK (code es' t' i)).1) = sg (OR es t i) (OR es' t' i) := c1
        rw [hv]
        by_cases hne : OR es t i = OR es' t' i
        · have hz : (sg (OR es t i) (OR es' t' i) != 0) = false := by rw [hne]; simp [sg]
          rw [hz]
          simp only [cond_false]
          rw [w64 (by omega) (by omega)]
          refine .inr ⟨_, rfl, ⟨by omega, by omega, fun j hj => ?_⟩, by omega⟩
          by_cases e : j = i
          · subst e; exact hne
          · exact q2 j (by omega)
        · have hz : (sg (OR es t i) (OR es' t' i) != 0) = true := by
            simp only [sg]
            by_cases h1 : OR es t i < OR es' t' i
            · simp [h1]
            · have h2 : OR es' t' i < OR es t i := by omega
              simp [h1, h2]
          rw [hz]
          exact .inl ⟨_, rfl, .inr ⟨i, fun j hj => q2 j (by omega), hne, rfl⟩⟩
      · refine .inl ⟨.inl (), by simp [hlt], .inl ⟨rfl, fun i => ?_⟩⟩
        by_cases hi : (i : Int) < q
        · exact q2 i hi
        · have e1 : code es t i = 13 := by unfold code; rw [if_neg (by omega), if_neg (by omega)]
          have e2 : code es' t' i = 13 := by unfold code; rw [if_neg (by omega), if_neg (by omega)]
          simp only [OR, e1, e2]) 0 ⟨by omega, by unfold gmax; split <;> omega, fun i hi => by omega⟩
  simp only [F83_dialplan_before, h1, lret]
  match e, h2 with
  | .inl _, h2 => exact ⟨0, rfl, h2⟩
  | .inr k, h2 => exact ⟨k, rfl, h2⟩
theorem sg_cases (a b : Int) : (sg a b = -1 ∧ a < b) ∨ (sg a b = 1 ∧ b < a) ∨ (sg a b = 0 ∧ a = b) := by unfold sg; split; exact .inl ⟨rfl, by assumption⟩; split; exact .inr (.inl ⟨rfl, by assumption⟩); exact .inr (.inr ⟨rfl, by omega⟩)
theorem Cmp.anti {o o' : Nat → Int} {k k' : Int} (h : Cmp o o' k) (h' : Cmp o' o k') : k = -k' := by
  rcases h with ⟨rfl, h⟩ | ⟨j, h1, h2, rfl⟩
  · rcases h' with ⟨rfl, _⟩ | ⟨j', _, h4, _⟩
    · rfl
    · exact absurd (h j').symm h4
  · rcases h' with ⟨_, h⟩ | ⟨j', h3, h4, rfl⟩
    · exact absurd (h j).symm h2
    · have : j = j' := by
        rcases Nat.lt_trichotomy j j' with hlt | he | hgt
        · exact absurd (h3 j hlt).symm h2
        · exact he
        · exact absurd (h1 j' hgt).symm h4
      subst this
      rcases sg_cases (o j) (o' j) with ⟨a, b⟩ | ⟨a, b⟩ | ⟨a, b⟩ <;> rcases sg_cases (o' j) (o j) with ⟨c, d⟩ | ⟨c, d⟩ | ⟨c, d⟩ <;> omega
theorem Cmp.trans {o o' o'' : Nat → Int} {k k' k'' : Int} (h : Cmp o o' k) (h' : Cmp o' o'' k') (h'' : Cmp o o'' k'') (hk : k < 0) (hk' : k' < 0) : k'' < 0 := by
  rcases h with ⟨rfl, _⟩ | ⟨j, h1, h2, rfl⟩
  · omega
  rcases h' with ⟨rfl, _⟩ | ⟨j', h3, h4, rfl⟩
  · omega
  have a1 : o j < o' j := by rcases sg_cases (o j) (o' j) with ⟨a, b⟩ | ⟨a, b⟩ | ⟨a, b⟩ <;> omega
  have a2 : o' j' < o'' j' := by rcases sg_cases (o' j') (o'' j') with ⟨a, b⟩ | ⟨a, b⟩ | ⟨a, b⟩ <;> omega
  obtain ⟨m, m1, m2⟩ : ∃ m, (∀ i, i < m → o i = o'' i) ∧ o m < o'' m := by
    rcases Nat.lt_trichotomy j j' with hlt | he | hgt
    · exact ⟨j, fun i hi => (h1 i hi).trans (h3 i (by omega)), by have := h3 j hlt; omega⟩
    · subst he; exact ⟨j, fun i hi => (h1 i hi).trans (h3 i hi), by omega⟩
    · exact ⟨j', fun i hi => (h1 i (by omega)).trans (h3 i hi), by have := h1 j' hgt; omega⟩
  rcases h'' with ⟨_, h⟩ | ⟨n, h5, h6, rfl⟩
  · have := h m; omega
  · have : n = m := by
      rcases Nat.lt_trichotomy n m with hlt | he | hgt
      · exact absurd (m1 n hlt) h6
      · exact he
      · have := h5 m hgt; omega
    subst this
    rcases sg_cases (o n) (o'' n) with ⟨a, b⟩ | ⟨a, b⟩ | ⟨a, b⟩ <;> omega
/-- Equal places: equal patterns. -/
theorem same_is {es es' : List Nat} {t t' : Nat} (h : ∀ e ∈ es, e < 12) (ht : t < 3) (h' : ∀ e ∈ es', e < 12) (ht' : t' < 3) (ho : ∀ i, OR es t i = OR es' t' i) : es = es' ∧ t = t' := by
  have hc : ∀ i, code es t i = code es' t' i := fun i => (cR_is (code_lt (t := t) h i) (code_lt (t := t') h' i)).2 (ho i)
  have tc : ∀ t, 12 ≤ tco t := fun t => by unfold tco; split <;> (try split) <;> omega
  have lt : ∀ {es : List Nat} {t : Nat}, (∀ e ∈ es, e < 12) → ∀ i, i < es.length → code es t i < 12 := fun {es t} h i hi => by
    have := h _ (List.getElem_mem hi)
    simp [code, hi]; exact this
  have ge : ∀ {es : List Nat} {t : Nat}, 12 ≤ code es t es.length := fun {es t} => by simp [code]; exact tc t
  have hlen : es.length = es'.length := by
    rcases Nat.lt_trichotomy es.length es'.length with hlt | he | hgt
    · have a := lt (t := t') h' _ hlt; have b := ge (es := es) (t := t); have := hc es.length; omega
    · exact he
    · have a := lt (t := t) h _ hgt; have b := ge (es := es') (t := t'); have := hc es'.length; omega
  refine ⟨List.ext_getElem hlen fun i h1 h2 => ?_, ?_⟩
  · have := hc i
    simpa [code, h1, h2] using this
  · have := hc es.length
    have e1 : code es t es.length = tco t := by simp [code]
    have e2 : code es' t' es.length = tco t' := by rw [hlen]; simp [code]
    rw [e1, e2] at this
    rcases (by omega : t = 0 ∨ t = 1 ∨ t = 2) with rfl | rfl | rfl <;> rcases (by omega : t' = 0 ∨ t' = 1 ∨ t' = 2) with rfl | rfl | rfl <;> simp [tco] at this ⊢

end Go.Proofs.YtcbepglkfglclaaDoor
