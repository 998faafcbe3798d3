/-
 Dial plans: what is drawn; ranges of digits, as they are written.
-/
import Derived.Test.YtagbgmkocjfanaaGreatDoorHM5Aa
import Derived.Test.YtagbgmkocjfanaaGreatDoorHM5Absc
import Derived.KernelRfl
namespace Go.Proofs.YtagbgmkocjfanaaGreatDoor
open Go Go.Abs
set_option maxRecDepth 100000
set_option maxHeartbeats 1000000

theorem below_is (x n : Int) (h1 : 1 ≤ n) (h2 : n ≤ 4611686018427387904) : F104_flashmake_Below x n = some (x % n) := by
 have hn : ¬ n < 1 := by omega
 have hn0 : n ≠ 0 := by omega
 have hlt : x.tmod n < n := Int.tmod_lt_of_pos _ (by omega)
 have hgt : -n < x.tmod n := by
  have := Int.tmod_lt_of_pos (-x) (b := n) (by omega)
  rw [Int.neg_tmod] at this; omega
 rw [emod_tmod x n h1]
 by_cases h : x.tmod n < 0
 ·simp (disch := omega) [F104_flashmake_Below, hn, grem, hn0, h, bnd, w64]
 ·simp [F104_flashmake_Below, hn, grem, hn0, h, bnd]
/-- A stream of numbers that may still be drawn from. -/
def SOk (s : T_flashmake_Stream) (k : Int) : Prop := s.L.length ≤ 4611686018427387904 ∧ 0 ≤ s.at_ ∧ s.at_ ≤ k
theorem next_is (s : T_flashmake_Stream) (n k : Int) (hs : SOk s k) (hk : k ≤ 4611686018427387904) (h1 : 1 ≤ n) (h2 : n ≤ 4611686018427387904) :
  ∃ r, F50_flashmake_Stream_Next s n = some (⟨s.L, s.at_ + 1⟩, r) ∧ 0 ≤ r ∧ r < n := by
 obtain ⟨hl, ha, hb⟩ := hs
 have e1 : IntKind.wrap .i64 (s.at_ + 1) = s.at_ + 1 := w64 (by omega) (by omega)
 have hm : ∀ x : Int, 0 ≤ x % n ∧ x % n < n := fun x => ⟨Int.emod_nonneg _ (by omega), Int.emod_lt_of_pos _ (by omega)⟩
 unfold F50_flashmake_Stream_Next
 rw [e1]
 by_cases h0 : s.L.length = 0
 ·have hz : (s.L.length : Int) = 0 := by omega
  simp [hz, below_is _ _ h1 h2]
  exact hm _
 ·have hz : ¬ ((s.L.length : Int) = 0) := by omega
  have e2 : IntKind.wrap .i64 (s.at_ + 1 - 1) = s.at_ := by rw [w64] <;> omega
  have hi : 0 ≤ s.at_.tmod s.L.length ∧ s.at_.tmod s.L.length < s.L.length := ⟨Int.tmod_nonneg _ ha, Int.tmod_lt_of_pos _ (by omega)⟩
  obtain ⟨x, hx, _⟩ := idx_of hi.1 hi.2
  rw [e2]
  have hne : s.L ≠ [] := by rintro q; simp [q] at h0
  have hb : ((s.L.length : Int) == 0) = false := by simp [hne]
  simp [hb, hne, grem, gquo, hx, below_is _ _ h1 h2, below_is _ 1073741824 (by omega) (by omega)]
  exact hm _
theorem range_is (s : T_flashmake_Stream) (lo hi k : Int) (hs : SOk s k) (hk : k ≤ 4611686018427387904) (h1 : lo ≤ hi) (h2 : -1000000000000 ≤ lo) (h3 : hi ≤ 1000000000000) :
  ∃ r, F73_flashmake_Stream_Range s lo hi = some (⟨s.L, s.at_ + 1⟩, r) ∧ lo ≤ r ∧ r ≤ hi := by
 obtain ⟨r, e, r1, r2⟩ := next_is s (hi - lo + 1) k hs hk (by omega) (by omega)
 have hlt : ¬ hi < lo := by omega
 refine ⟨lo + r, ?_, by omega, by omega⟩
 simp (disch := omega) [F73_flashmake_Stream_Range, hlt, w64, e, bnd]

theorem SOk.up {s : T_flashmake_Stream} {k m : Int} (h : SOk s k) (e : k ≤ m) : SOk s m := ⟨h.1, h.2.1, Int.le_trans h.2.2 e⟩
theorem SOk.one {s : T_flashmake_Stream} {k : Int} (h : SOk s k) : SOk ⟨s.L, s.at_ + 1⟩ (k + 1) := by
 obtain ⟨a, b, c⟩ := h
 exact ⟨a, by (try simp only []); omega, by (try simp only []); omega⟩
theorem some_in (s : T_flashmake_Stream) (l : List (List UInt8)) (k : Int) (hs : SOk s k) (hk : k ≤ 1000000) (hl : 0 < l.length) (hl2 : l.length ≤ 1000) : ∃ r, F45_flashmake_Stream_Some s l = some (⟨s.L, s.at_ + 1⟩, r) ∧ r ∈ l := by
 obtain ⟨r, e, r1, r2⟩ := next_is s l.length k hs (by omega) (by omega) (by omega)
 obtain ⟨x, hx, hm⟩ := idx_of r1 r2
 exact ⟨x, by simp [F45_flashmake_Stream_Some, e, hx, bnd], hm⟩

/-- The elements of patterns, their masks; the signs. -/
def els : List (List UInt8) := [[49], [50], [57], [48], [42], [88], [78], [90], [91, 49, 50, 93], [91, 50, 45, 52, 93], [91, 49, 45, 51, 53, 93], [91, 50, 57, 93]]
def EL (e : Nat) : List UInt8 := els.getD e []
def mks : List Int := [8, 16, 2048, 4, 2, 4092, 4080, 4088, 24, 112, 184, 2064]
def MK (e : Nat) : Int := mks.getD e 0
def sgs : List UInt8 := [35, 42, 48, 49, 50, 51, 52, 53, 54, 55, 56, 57]
def SG (b : Nat) : UInt8 := sgs.getD b 0
def cat (es : List Nat) : List UInt8 := es.flatMap EL
def tst (t : Nat) : List UInt8 := if t = 0 then [] else if t = 1 then [46] else [33]
def tby (t : Nat) : Int := if t = 0 then 0 else if t = 1 then 46 else 33
/-- A pattern that is drawn: its elements and its tail. -/
def PGood (p : List UInt8) (es : List Nat) (t : Nat) : Prop := p = cat es ++ tst t ∧ 1 ≤ es.length ∧ es.length ≤ 4 ∧ (∀ e ∈ es, e < 12) ∧ t < 3
theorem EL_len {e : Nat} (h : e < 12) : 1 ≤ (EL e).length ∧ (EL e).length ≤ 6 := by
 rcases (by omega : e = 0 ∨ e = 1 ∨ e = 2 ∨ e = 3 ∨ e = 4 ∨ e = 5 ∨ e = 6 ∨ e = 7 ∨ e = 8 ∨ e = 9 ∨ e = 10 ∨ e = 11) with rfl | rfl | rfl | rfl | rfl | rfl | rfl | rfl | rfl | rfl | rfl | rfl <;> decide
theorem cat_len : ∀ (es : List Nat), (∀ e ∈ es, e < 12) → (cat es).length ≤ 6 * es.length
 | [], _ => by simp [cat]
 | e :: es, h => by
  have h1 := EL_len (h e (by simp))
  have h2 := cat_len es fun x hx => h x (List.mem_cons_of_mem _ hx)
  simp only [cat, List.flatMap_cons, List.length_append, List.length_cons] at h2 ⊢
  omega
theorem cat_add (es : List Nat) (e : Nat) : cat (es ++ [e]) = cat es ++ EL e := by simp [cat]
theorem sadd_of {a b : List UInt8} (h : a.length + b.length ≤ 1000) : sadd a b = some (a ++ b) := by
 unfold sadd; rw [if_pos (by omega)]

theorem pattern_is (s0 : T_flashmake_Stream) (k : Int) (hs : SOk s0 k) (hk : k ≤ 1000) : ∃ s' p es t, F135_flashmake_Stream_RightPattern s0 = some (s', p) ∧ PGood p es t ∧ SOk s' (k + 6) := by
 obtain ⟨m, e1, m1, m2⟩ := range_is s0 1 4 _ hs (by omega) (by omega) (by omega) (by omega)
 obtain ⟨e, h1, ⟨es, h2, h3, h4, h5⟩, h6⟩ := loopO_ind (step := fun s : List UInt8 × Int × T_flashmake_Stream => F135_flashmake_Stream_RightPattern_l0 (⟨s0.L, s0.at_ + 1⟩, m) s.1 s.2.1 s.2.2)
  (fun q => 0 ≤ q.2.1 ∧ q.2.1 ≤ m ∧ (∃ es : List Nat, q.1 = cat es ∧ (es.length : Int) = q.2.1 ∧ ∀ e ∈ es, e < 12) ∧ SOk q.2.2 (k + 1 + q.2.1))
  (fun e => (∃ es : List Nat, e.1 = cat es ∧ 1 ≤ es.length ∧ es.length ≤ 4 ∧ ∀ e ∈ es, e < 12) ∧ SOk e.2 (k + 5)) (fun q => (4 - q.2.1).toNat) (fun q hq => by
   obtain ⟨l, n, s⟩ := q
   obtain ⟨q0, q1, ⟨es, rfl, q2, q3⟩, q4⟩ := hq
   simp only [] at q0 q1 q2 q3 q4
   simp only [F135_flashmake_Stream_RightPattern_l0]
   by_cases hlt : n < m
   ·obtain ⟨r, f1, r1⟩ := some_in s [[49], [50], [50], [57], [48], [42], [88], [88], [78], [90], [91, 49, 50, 93], [91, 50, 45, 52, 93], [91, 49, 45, 51, 53, 93], [91, 50, 57, 93]] _ q4 (by omega) (by simp) (by simp)
    obtain ⟨e, he, rfl⟩ : ∃ e, e < 12 ∧ r = EL e := by
     simp only [List.mem_cons, List.not_mem_nil, or_false] at r1
     rcases r1 with rfl | rfl | rfl | rfl | rfl | rfl | rfl | rfl | rfl | rfl | rfl | rfl | rfl | rfl
     ·exact ⟨0, by omega, rfl⟩
     ·exact ⟨1, by omega, rfl⟩
     ·exact ⟨1, by omega, rfl⟩
     ·exact ⟨2, by omega, rfl⟩
     ·exact ⟨3, by omega, rfl⟩
     ·exact ⟨4, by omega, rfl⟩
     ·exact ⟨5, by omega, rfl⟩
     ·exact ⟨5, by omega, rfl⟩
     ·exact ⟨6, by omega, rfl⟩
     ·exact ⟨7, by omega, rfl⟩
     ·exact ⟨8, by omega, rfl⟩
     ·exact ⟨9, by omega, rfl⟩
     ·exact ⟨10, by omega, rfl⟩
     ·exact ⟨11, by omega, rfl⟩
    have hl := cat_len es q3
    have he2 := EL_len he
    have hd : (decide (n < m)) = true := by simpa using hlt
    refine .inr ⟨(cat (es ++ [e]), n + 1, ⟨s.L, s.at_ + 1⟩), ?_, ⟨by (try simp only []); omega, by (try simp only []); omega, ⟨es ++ [e], rfl, by simp; omega, fun x hx => ?_⟩, q4.one.up (by (try simp only []); omega)⟩, by (try simp only []); omega⟩
    ·rw [hd]; simp only [cond_true, f1, Option.bind_some]
     rw [sadd_of (by omega), w64 (by omega) (by omega), cat_add]; rfl
    ·rcases List.mem_append.1 hx with hx | hx
     ·exact q3 x hx
     ·simp at hx; omega
   ·exact .inl ⟨(cat es, s), by simp [hlt], ⟨es, rfl, by omega, by omega, q3⟩, q4.up (by omega)⟩) ([], 0, ⟨s0.L, s0.at_ + 1⟩) ⟨by simp, by simp; omega, ⟨[], rfl, by simp, by simp⟩, hs.one.up (by (try simp only []); omega)⟩
 obtain ⟨l, s⟩ := e
 simp only [] at h2 h6
 subst h2
 obtain ⟨r, f1, r1⟩ := some_in s [[], [], [], [46], [33]] _ h6 (by omega) (by simp) (by simp)
 obtain ⟨t, ht, rfl⟩ : ∃ t, t < 3 ∧ r = tst t := by
  simp only [List.mem_cons, List.not_mem_nil, or_false] at r1
  rcases r1 with rfl | rfl | rfl | rfl | rfl
  ·exact ⟨0, by omega, rfl⟩
  ·exact ⟨0, by omega, rfl⟩
  ·exact ⟨0, by omega, rfl⟩
  ·exact ⟨1, by omega, rfl⟩
  ·exact ⟨2, by omega, rfl⟩
 have hl := cat_len es h5
 have ht2 : (tst t).length ≤ 1 := by unfold tst; split <;> (try split) <;> simp
 refine ⟨⟨s.L, s.at_ + 1⟩, cat es ++ tst t, es, t, ?_, ⟨rfl, h3, h4, h5, ht⟩, h6.one.up (by (try simp only []); omega)⟩
 simp only [F135_flashmake_Stream_RightPattern, bnd, e1, Option.bind_some, h1, f1]
 rw [sadd_of (by omega)]; rfl
/-- What is dialled: signs by their places. -/
def DGood (d : List UInt8) (bs : List Nat) : Prop := d = bs.map SG ∧ 1 ≤ bs.length ∧ bs.length ≤ 6 ∧ ∀ b ∈ bs, b < 12
theorem dialled_is (s0 : T_flashmake_Stream) (k : Int) (hs : SOk s0 k) (hk : k ≤ 1000) : ∃ s' d bs, F26_flashmake_Stream_RightDialled s0 = some (s', d) ∧ DGood d bs := by
 obtain ⟨m, e1, m1, m2⟩ := range_is s0 1 6 _ hs (by omega) (by omega) (by omega) (by omega)
 obtain ⟨e, h1, ⟨bs, h2, h3, h4, h5⟩⟩ := loopO_ind (step := fun s : List UInt8 × Int × T_flashmake_Stream => F26_flashmake_Stream_RightDialled_l0 (⟨s0.L, s0.at_ + 1⟩, m) s.1 s.2.1 s.2.2)
  (fun q => 0 ≤ q.2.1 ∧ q.2.1 ≤ m ∧ (∃ bs : List Nat, q.1 = bs.map SG ∧ (bs.length : Int) = q.2.1 ∧ ∀ b ∈ bs, b < 12) ∧ SOk q.2.2 (k + 1 + q.2.1))
  (fun e => (∃ bs : List Nat, e.1 = bs.map SG ∧ 1 ≤ bs.length ∧ bs.length ≤ 6 ∧ ∀ b ∈ bs, b < 12)) (fun q => (6 - q.2.1).toNat) (fun q hq => by
   obtain ⟨l, n, s⟩ := q
   obtain ⟨q0, q1, ⟨bs, rfl, q2, q3⟩, q4⟩ := hq
   simp only [] at q0 q1 q2 q3 q4
   simp only [F26_flashmake_Stream_RightDialled_l0]
   by_cases hlt : n < m
   ·obtain ⟨r, f1, r1⟩ := some_in s [[49], [50], [50], [51], [57], [48], [42], [35]] _ q4 (by omega) (by simp) (by simp)
    obtain ⟨b, hb, rfl⟩ : ∃ b, b < 12 ∧ r = [SG b] := by
     simp only [List.mem_cons, List.not_mem_nil, or_false] at r1
     rcases r1 with rfl | rfl | rfl | rfl | rfl | rfl | rfl | rfl
     ·exact ⟨3, by omega, rfl⟩
     ·exact ⟨4, by omega, rfl⟩
     ·exact ⟨4, by omega, rfl⟩
     ·exact ⟨5, by omega, rfl⟩
     ·exact ⟨11, by omega, rfl⟩
     ·exact ⟨2, by omega, rfl⟩
     ·exact ⟨1, by omega, rfl⟩
     ·exact ⟨0, by omega, rfl⟩
    have hd : (decide (n < m)) = true := by simpa using hlt
    refine .inr ⟨((bs ++ [b]).map SG, n + 1, ⟨s.L, s.at_ + 1⟩), ?_, ⟨by (try simp only []); omega, by (try simp only []); omega, ⟨bs ++ [b], rfl, by simp; omega, fun x hx => ?_⟩, q4.one.up (by (try simp only []); omega)⟩, by (try simp only []); omega⟩
    ·rw [hd]; simp only [cond_true, f1, Option.bind_some]
     rw [sadd_of (by simp; omega), w64 (by omega) (by omega)]; simp
    ·rcases List.mem_append.1 hx with hx | hx
     ·exact q3 x hx
     ·simp at hx; omega
   ·exact .inl ⟨(bs.map SG, s), by simp [hlt], ⟨bs, rfl, by omega, by omega, q3⟩⟩) ([], 0, ⟨s0.L, s0.at_ + 1⟩) ⟨by simp, by simp; omega, ⟨[], rfl, by simp, by simp⟩, hs.one.up (by (try simp only []); omega)⟩
 exact ⟨e.2, e.1, bs, by simp only [F26_flashmake_Stream_RightDialled, bnd, e1, Option.bind_some, h1], h2, h3, h4, h5⟩

/- Reading. -/
theorem loop_twin {S E : Type} {f g : S → Option (S ⊕ E)} (h : ∀ s r, g s = some r → f s = some r) : ∀ (n : Nat) (s : S) (e : E), loopF g n s = some e → loopO f s = some e := by
 intro n
 induction n with
 | zero => intro s e he; simp [loopF] at he
 | succ n ih =>
  intro s e he
  rw [loopO_eq]
  simp only [loopF] at he
  cases hg : g s with
  | none => rw [hg] at he; simp at he
  | some r =>
   rw [hg] at he
   rw [h s r hg]
   cases r with
   | inl s' => exact ih s' e he
   | inr x => simpa using he
theorem from_is (a b v : Int) (h : loopF (fun s : Int × Int => F188_dialplan_from_l0 b s.1 s.2) 16 (0, a) = some v) : F188_dialplan_from a b = some v := by
 simp only [F188_dialplan_from, loopO_of h, Option.bind_some]
theorem f09 : F188_dialplan_from 48 57 = some 4092 := from_is _ _ _ (by kernel_rfl)
theorem f19 : F188_dialplan_from 49 57 = some 4088 := from_is _ _ _ (by kernel_rfl)
theorem f29 : F188_dialplan_from 50 57 = some 4080 := from_is _ _ _ (by kernel_rfl)
theorem f11 : F188_dialplan_from 49 49 = some 8 := from_is _ _ _ (by kernel_rfl)
theorem f22 : F188_dialplan_from 50 50 = some 16 := from_is _ _ _ (by kernel_rfl)
theorem f24 : F188_dialplan_from 50 52 = some 112 := from_is _ _ _ (by kernel_rfl)
theorem f13 : F188_dialplan_from 49 51 = some 56 := from_is _ _ _ (by kernel_rfl)
theorem f55 : F188_dialplan_from 53 53 = some 128 := from_is _ _ _ (by kernel_rfl)
theorem f99 : F188_dialplan_from 57 57 = some 2048 := from_is _ _ _ (by kernel_rfl)
noncomputable def G171 (x0 : Int) (w12 : List UInt8) (w13 : Int) : Option ((List UInt8 × Int) ⊕ (List UInt8)) := bif (decide (w13 ≤ ((57 : Int)))) then ((F155_dialplan_only w13).bind fun y22 => bif (((gand .u16 x0 y22)) == ((0 : Int))) then (bnd ((IntKind.wrap .u8 (w13 + ((1 : Int))))) fun u26 => some (.inl ((w12, u26)))) else ((loopF (fun s : Int => F223_dialplan_mask_digits_l1 x0 s) 12 w13).bind fun y74 => bnd ((decide (y74 > ((IntKind.wrap .u8 (w13 + ((1 : Int)))))))) fun u84 => (bif u84 then ((sadd w12 ((bytesStr (([w13, (45 : Int), y74] : List Int))))).bind fun y99 => some y99) else (bnd ((decide (y74 > w13))) fun u101 => bif u101 then ((sadd w12 ((bytesStr (([w13, y74] : List Int))))).bind fun y105 => some y105) else ((sadd w12 ((bytesStr (([w13] : List Int))))).bind fun y108 => some y108))).bind fun y96 => bnd ((IntKind.wrap .u8 (y74 + ((1 : Int))))) fun u118 => some (.inl ((y96, u118))))) else (some (.inr w12))
theorem bind_twin {A B : Type} {a b : Option A} {k : A → Option B} {r : B} (h : ∀ e, a = some e → b = some e) (e : a.bind k = some r) : b.bind k = some r := by
 cases a with
 | none => simp at e
 | some x => rw [h x rfl]; exact e
theorem g171_le (x0 : Int) (w : List UInt8) (v : Int) (r : (List UInt8 × Int) ⊕ (List UInt8)) (h : G171 x0 w v = some r) : F223_dialplan_mask_digits_l0 x0 w v = some r := by
 unfold G171 at h
 unfold F223_dialplan_mask_digits_l0
 cases hc : decide (v ≤ (57 : Int)) with
 | false => rw [hc] at h; exact h
 | true =>
  rw [hc] at h
  simp only [cond_true] at h ⊢
  cases h1 : F155_dialplan_only v with
  | none => rw [h1] at h; simp at h
  | some y =>
   rw [h1] at h
   simp only [Option.bind_some] at h ⊢
   cases h2 : (gand .u16 x0 y == (0 : Int)) with
   | true => rw [h2] at h; exact h
   | false =>
    rw [h2] at h
    simp only [cond_false] at h ⊢
    exact bind_twin (fun e he => loopO_of he) h
theorem digits_is (m : Int) (v : List UInt8) (h : loopF (fun s : List UInt8 × Int => G171 m s.1 s.2) 16 ([], 48) = some v) : F223_dialplan_mask_digits m = some v := by
 have := loop_twin (f := fun s : List UInt8 × Int => F223_dialplan_mask_digits_l0 m s.1 s.2) (fun s r hr => g171_le m s.1 s.2 r hr) 16 ([], 48) v h
 simp only [F223_dialplan_mask_digits, bnd, this, Option.bind_some]
theorem d24 : F223_dialplan_mask_digits 24 = some [49, 50] := digits_is _ _ (by kernel_rfl)
theorem d112 : F223_dialplan_mask_digits 112 = some [50, 45, 52] := digits_is _ _ (by kernel_rfl)
theorem d184 : F223_dialplan_mask_digits 184 = some [49, 45, 51, 53] := digits_is _ _ (by kernel_rfl)
theorem d2064 : F223_dialplan_mask_digits 2064 = some [50, 57] := digits_is _ _ (by kernel_rfl)
theorem sub_pre {a r : List UInt8} : sub (a ++ r) 0 (a.length : Int) = some a := by
 unfold sub
 rw [if_pos ⟨by omega, by omega, by rw [List.length_append]; omega⟩]
 simp
theorem sub_post {a r : List UInt8} : sub (a ++ r) (a.length : Int) ((a ++ r).length : Nat) = some r := by
 unfold sub
 rw [if_pos ⟨by omega, by rw [List.length_append]; omega, by omega⟩]
 rw [Int.toNat_natCast, Int.toNat_natCast, List.take_length]
 simp

/- One element. -/
theorem rest_is (a : UInt8) (r : List UInt8) : sub (a :: r) 1 ((a :: r).length : Nat) = some r := sub_post (a := [a])
theorem loop2 {S E : Type} {f : S → Option (S ⊕ E)} {s s' : S} (h : f s = some (.inl s')) : loopO f s = loopO f s' := by rw [loopO_eq, h]
theorem loop3 {S E : Type} {f : S → Option (S ⊕ E)} {s : S} {e : E} (h : f s = some (.inr e)) : loopO f s = some e := by rw [loopO_eq, h]
theorem set_end {x0 : List UInt8} {y1 m : Int} {d : List UInt8} (h1 : F141_strings_IndexByte x0 93 = some y1) (h0 : (decide (y1 < 0)) = false)
  (hl : loopO (fun s : Int × Int => F189_dialplan_readSet_l0 x0 y1 s.1 s.2) (0, 0) = some (.inl m)) (h2 : ∃ c, F222_math_bits_OnesCount16 m = some c ∧ (decide (c < 2)) = false)
  (h3 : (m == 4092) = false) (h4 : (m == 4088) = false) (h5 : (m == 4080) = false) (h6 : F223_dialplan_mask_digits m = some d) (h7 : sub x0 0 y1 = some d) (h8 : IntKind.wrap .i64 (y1 + 1) = y1 + 1) : F189_dialplan_readSet x0 = some (m, y1 + 1) := by
 obtain ⟨c, c1, c2⟩ := h2
 simp only [F189_dialplan_readSet, h1, Option.bind_some, h0, cond_false, hl, lret, c1, c2, f09, f19, f29, h3, h4, h5, h6, h7, bnd, h8, beq_self_eq_true, Bool.not_true]
theorem set24 (r : List UInt8) : F189_dialplan_readSet (49 :: 50 :: 93 :: r) = some (24, 3) := by
 have s1 : F189_dialplan_readSet_l0 (49 :: 50 :: 93 :: r) 2 0 0 = (F188_dialplan_from 49 49).bind fun y => some (.inl (gor .u16 0 y, 1)) := by kernel_rfl
 have s2 : F189_dialplan_readSet_l0 (49 :: 50 :: 93 :: r) 2 8 1 = (F188_dialplan_from 50 50).bind fun y => some (.inl (gor .u16 8 y, 2)) := by kernel_rfl
 have s3 : F189_dialplan_readSet_l0 (49 :: 50 :: 93 :: r) 2 24 2 = some (.inr (.inl 24)) := by kernel_rfl
 rw [f11] at s1; rw [f22] at s2
 have hl : loopO (fun s : Int × Int => F189_dialplan_readSet_l0 (49 :: 50 :: 93 :: r) 2 s.1 s.2) (0, 0) = some (.inl 24) :=
  (loop2 (s' := (8, 1)) (by exact s1.trans (by kernel_rfl))).trans ((loop2 (s' := (24, 2)) (by exact s2.trans (by kernel_rfl))).trans (loop3 s3))
 exact set_end (y1 := 2) (by kernel_rfl) (by decide) hl ⟨2, by kernel_rfl, by decide⟩ (by decide) (by decide) (by decide) d24 (sub_pre (a := [49, 50])) (by decide)
theorem set112 (r : List UInt8) : F189_dialplan_readSet (50 :: 45 :: 52 :: 93 :: r) = some (112, 4) := by
 have s1 : F189_dialplan_readSet_l0 (50 :: 45 :: 52 :: 93 :: r) 3 0 0 = (F188_dialplan_from 50 52).bind fun y => some (.inl (gor .u16 0 y, 3)) := by kernel_rfl
 have s3 : F189_dialplan_readSet_l0 (50 :: 45 :: 52 :: 93 :: r) 3 112 3 = some (.inr (.inl 112)) := by kernel_rfl
 rw [f24] at s1
 have hl : loopO (fun s : Int × Int => F189_dialplan_readSet_l0 (50 :: 45 :: 52 :: 93 :: r) 3 s.1 s.2) (0, 0) = some (.inl 112) :=
  (loop2 (s' := (112, 3)) (by exact s1.trans (by kernel_rfl))).trans (loop3 s3)
 exact set_end (y1 := 3) (by kernel_rfl) (by decide) hl ⟨3, by kernel_rfl, by decide⟩ (by decide) (by decide) (by decide) d112 (sub_pre (a := [50, 45, 52])) (by decide)
theorem set184 (r : List UInt8) : F189_dialplan_readSet (49 :: 45 :: 51 :: 53 :: 93 :: r) = some (184, 5) := by
 have s1 : F189_dialplan_readSet_l0 (49 :: 45 :: 51 :: 53 :: 93 :: r) 4 0 0 = (F188_dialplan_from 49 51).bind fun y => some (.inl (gor .u16 0 y, 3)) := by kernel_rfl
 have s2 : F189_dialplan_readSet_l0 (49 :: 45 :: 51 :: 53 :: 93 :: r) 4 56 3 = (F188_dialplan_from 53 53).bind fun y => some (.inl (gor .u16 56 y, 4)) := by kernel_rfl
 have s3 : F189_dialplan_readSet_l0 (49 :: 45 :: 51 :: 53 :: 93 :: r) 4 184 4 = some (.inr (.inl 184)) := by kernel_rfl
 rw [f13] at s1; rw [f55] at s2
 have hl : loopO (fun s : Int × Int => F189_dialplan_readSet_l0 (49 :: 45 :: 51 :: 53 :: 93 :: r) 4 s.1 s.2) (0, 0) = some (.inl 184) :=
  (loop2 (s' := (56, 3)) (by exact s1.trans (by kernel_rfl))).trans ((loop2 (s' := (184, 4)) (by exact s2.trans (by kernel_rfl))).trans (loop3 s3))
 exact set_end (y1 := 4) (by kernel_rfl) (by decide) hl ⟨4, by kernel_rfl, by decide⟩ (by decide) (by decide) (by decide) d184 (sub_pre (a := [49, 45, 51, 53])) (by decide)
theorem set2064 (r : List UInt8) : F189_dialplan_readSet (50 :: 57 :: 93 :: r) = some (2064, 3) := by
 have s1 : F189_dialplan_readSet_l0 (50 :: 57 :: 93 :: r) 2 0 0 = (F188_dialplan_from 50 50).bind fun y => some (.inl (gor .u16 0 y, 1)) := by kernel_rfl
 have s2 : F189_dialplan_readSet_l0 (50 :: 57 :: 93 :: r) 2 16 1 = (F188_dialplan_from 57 57).bind fun y => some (.inl (gor .u16 16 y, 2)) := by kernel_rfl
 have s3 : F189_dialplan_readSet_l0 (50 :: 57 :: 93 :: r) 2 2064 2 = some (.inr (.inl 2064)) := by kernel_rfl
 rw [f22] at s1; rw [f99] at s2
 have hl : loopO (fun s : Int × Int => F189_dialplan_readSet_l0 (50 :: 57 :: 93 :: r) 2 s.1 s.2) (0, 0) = some (.inl 2064) :=
  (loop2 (s' := (16, 1)) (by exact s1.trans (by kernel_rfl))).trans ((loop2 (s' := (2064, 2)) (by exact s2.trans (by kernel_rfl))).trans (loop3 s3))
 exact set_end (y1 := 2) (by kernel_rfl) (by decide) hl ⟨2, by kernel_rfl, by decide⟩ (by decide) (by decide) (by decide) d2064 (sub_pre (a := [50, 57])) (by decide)
theorem elem_set {r : List UInt8} {m n : Int} (h : F189_dialplan_readSet r = some (m, n)) (hn : (n == 0) = false) (hw : IntKind.wrap .i64 (n + 1) = n + 1) : F137_dialplan_element (91 :: r) = some (m, n + 1) := by
 have e : F137_dialplan_element (91 :: r) = (sub (91 :: r) 1 ((91 :: r : List UInt8).length : Nat)).bind fun y26 => (F189_dialplan_readSet y26).bind fun y28 => bif (y28.2 == ((0 : Int))) then (some (((0 : Int), (0 : Int)))) else (bnd ((IntKind.wrap .i64 (y28.2 + ((1 : Int))))) fun u32 => some ((y28.1, u32))) := by kernel_rfl
 rw [e, rest_is]
 simp only [Option.bind_some, h, hn, cond_false, bnd, hw]
theorem elem_is {e : Nat} (he : e < 12) (r : List UInt8) : F137_dialplan_element (EL e ++ r) = some (MK e, ((EL e).length : Int)) := by
 rcases (by omega : e = 0 ∨ e = 1 ∨ e = 2 ∨ e = 3 ∨ e = 4 ∨ e = 5 ∨ e = 6 ∨ e = 7 ∨ e = 8 ∨ e = 9 ∨ e = 10 ∨ e = 11) with rfl | rfl | rfl | rfl | rfl | rfl | rfl | rfl | rfl | rfl | rfl | rfl
 ·show F137_dialplan_element (49 :: r) = some (8, 1); kernel_rfl
 ·show F137_dialplan_element (50 :: r) = some (16, 1); kernel_rfl
 ·show F137_dialplan_element (57 :: r) = some (2048, 1); kernel_rfl
 ·show F137_dialplan_element (48 :: r) = some (4, 1); kernel_rfl
 ·show F137_dialplan_element (42 :: r) = some (2, 1); kernel_rfl
 ·have e : F137_dialplan_element (88 :: r) = (F188_dialplan_from 48 57).bind fun y8 => some ((y8, (1 : Int))) := by kernel_rfl
  show F137_dialplan_element (88 :: r) = some (4092, 1); rw [e, f09]; rfl
 ·have e : F137_dialplan_element (78 :: r) = (F188_dialplan_from 50 57).bind fun y8 => some ((y8, (1 : Int))) := by kernel_rfl
  show F137_dialplan_element (78 :: r) = some (4080, 1); rw [e, f29]; rfl
 ·have e : F137_dialplan_element (90 :: r) = (F188_dialplan_from 49 57).bind fun y8 => some ((y8, (1 : Int))) := by kernel_rfl
  show F137_dialplan_element (90 :: r) = some (4088, 1); rw [e, f19]; rfl
 ·exact elem_set (set24 r) (by decide) (by decide)
 ·exact elem_set (set112 r) (by decide) (by decide)
 ·exact elem_set (set184 r) (by decide) (by decide)
 ·exact elem_set (set2064 r) (by decide) (by decide)
theorem EL_head {e : Nat} (he : e < 12) (r : List UInt8) : ((EL e ++ r) == ([] : List UInt8)) = false ∧ ((EL e ++ r) == ([46] : List UInt8)) = false ∧ ((EL e ++ r) == ([33] : List UInt8)) = false := by
 rcases (by omega : e = 0 ∨ e = 1 ∨ e = 2 ∨ e = 3 ∨ e = 4 ∨ e = 5 ∨ e = 6 ∨ e = 7 ∨ e = 8 ∨ e = 9 ∨ e = 10 ∨ e = 11) with rfl | rfl | rfl | rfl | rfl | rfl | rfl | rfl | rfl | rfl | rfl | rfl <;>
  exact ⟨rfl, rfl, rfl⟩
/-- A pattern that is drawn is read. -/
theorem read_loop (w : T_dialplan_pattern) (t : Nat) (ht : t < 3) : ∀ (es : List Nat) (l : List Int), (∀ e ∈ es, e < 12) → l.length + es.length ≤ 4 →
  loopO (fun s : List UInt8 × T_dialplan_pattern × T_dialplan_pattern => F79_dialplan_read_l0 s.1 s.2.1 s.2.2) (cat es ++ tst t, w, ⟨l, 0⟩) = some (.inl (w, ⟨l ++ es.map MK, tby t⟩))
 | [], l, _, _ => by
  rcases (by omega : t = 0 ∨ t = 1 ∨ t = 2) with rfl | rfl | rfl
  ·exact loop3 (by simp [F79_dialplan_read_l0, cat, tst, tby])
  ·exact loop3 (by simp [F79_dialplan_read_l0, cat, tst, tby, idx])
  ·exact loop3 (by simp [F79_dialplan_read_l0, cat, tst, tby, idx])
 | e :: es, l, h, hl => by
  have he := h e (by simp)
  obtain ⟨a1, a2, a3⟩ := EL_head he (cat es ++ tst t)
  have ha := elem_is he (cat es ++ tst t)
  have hlen := (EL_len he).1
  have e1 : cat (e :: es) ++ tst t = EL e ++ (cat es ++ tst t) := by simp [cat]
  simp only [List.length_cons] at hl
  have ih := read_loop w t ht es (l ++ [MK e]) (fun x hx => h x (List.mem_cons_of_mem _ hx)) (by simp; omega)
  rw [e1]
  refine (loop2 (s' := (cat es ++ tst t, w, ⟨l ++ [MK e], 0⟩)) ?_).trans (by rw [ih]; simp)
  have hz : (((EL e).length : Int) == 0) = false := by simp; intro q; rw [q] at hlen; simp at hlen
  simp only [F79_dialplan_read_l0, a1, a2, a3, Bool.not_false, cond_true, Bool.or_self, cond_false, ha, Option.bind_some, hz, sub_post]
  rw [app_of (by simp; omega) (by simp; omega)]
  rfl
def PT (es : List Nat) (t : Nat) : T_dialplan_pattern := ⟨es.map MK, tby t⟩
theorem read_is {p : List UInt8} {es : List Nat} {t : Nat} (h : PGood p es t) : F79_dialplan_read p = some (PT es t, 0) := by
 obtain ⟨rfl, h1, h2, h3, h4⟩ := h
 have hl := cat_len es h3
 have ht2 : (tst t).length ≤ 1 := by unfold tst; split <;> (try split) <;> simp
 have hd : (decide (((List.length (cat es ++ tst t) : Nat) : Int) > 60)) = false := by rw [List.length_append]; simp; omega
 have := read_loop ⟨[], 0⟩ t h4 es [] h3 (by simp; omega)
 simp only [List.nil_append] at this
 have hn : ((List.length (es.map MK) : Nat) : Int) = (es.length : Int) := by simp
 simp only [F79_dialplan_read, hd, cond_false, this, lret, bnd, hn]
 have c1 : (decide ((es.length : Int) < 1)) = false := by simp; omega
 have c2 : (decide ((es.length : Int) > 30)) = false := by simp; omega
 have c3 : (decide ((es.length : Int) + 1 < 1)) = false := by simp; omega
 have c4 : (decide ((es.length : Int) + 1 > 30)) = false := by simp; omega
 by_cases ht : t = 0
 ·subst ht
  simp only [tby, if_true, bne_self_eq_false, cond_false, Option.bind_some, c1, c2, Bool.or_self, PT]
 ·have hb : (tby t != 0) = true := by rcases (by omega : t = 1 ∨ t = 2) with rfl | rfl <;> rfl
  simp only [hb, cond_true, Option.bind_some]
  rw [w64 (by omega) (by omega), c3, c4]
  rfl
end Go.Proofs.YtagbgmkocjfanaaGreatDoor

/-
 Dial plans: the order of patterns.
-/
namespace Go.Proofs.YtagbgmkocjfanaaGreatDoor
open Go Go.Abs
set_option maxRecDepth 100000
set_option maxHeartbeats 1000000

/-- What an element's set is written as; how special a place is. -/
def rss : List (List UInt8) := [[49], [50], [57], [48], [42], [48, 49, 50, 51, 52, 53, 54, 55, 56, 57], [50, 51, 52, 53, 54, 55, 56, 57], [49, 50, 51, 52, 53, 54, 55, 56, 57], [49, 50], [50, 51, 52], [49, 50, 51, 53], [50, 57]]
def RS (e : Nat) : List UInt8 := rss.getD e []
def RK (c : Nat) : Int × List UInt8 := if c < 12 then (((RS c).length : Int), RS c) else if c = 12 then (100, []) else if c = 13 then (101, []) else (102, [])
def tco (t : Nat) : Nat := if t = 0 then 13 else if t = 1 then 12 else 14
def code (es : List Nat) (t : Nat) (i : Nat) : Nat := if i < es.length then es.getD i 0 else if i = es.length then tco t else 13
theorem rs_all : (List.range 12).all (fun e => loopF (fun s : List UInt8 × Int => F150_dialplan_pattern_rank_l0 (MK e) s.1 s.2) 16 ([], 0) == some (RS e)) = true := by kernel_rfl
theorem rs_is {e : Nat} (he : e < 12) : loopO (fun s : List UInt8 × Int => F150_dialplan_pattern_rank_l0 (MK e) s.1 s.2) ([], 0) = some (RS e) := by
 have := List.all_eq_true.1 rs_all e (List.mem_range.2 he)
 exact loopO_of (n := 16) (by simpa using this)
theorem sets_len (es : List Nat) (t : Nat) : ((List.length (PT es t).sets : Nat) : Int) = (es.length : Int) := by simp [PT]
theorem rank_is {es : List Nat} {t : Nat} (h : ∀ e ∈ es, e < 12) (ht : t < 3) (i : Nat) : F150_dialplan_pattern_rank (PT es t) (i : Int) = some (RK (code es t i)) := by
 simp only [F150_dialplan_pattern_rank, bnd, sets_len]
 by_cases hi : i < es.length
 ·have hd : (decide (((i : Nat) : Int) < (es.length : Int))) = true := by simp; exact hi
  have hm : i < (es.map MK).length := by simpa using hi
  have he := h _ (List.getElem_mem hi)
  have hidx : idx (PT es t).sets (i : Int) = some (MK es[i]) := by
   show idx (es.map MK) (i : Int) = _
   rw [idx_at hm]; simp
  have hc : code es t i = es[i] := by simp [code, hi]
  simp only [hd, cond_true, hidx, Option.bind_some, rs_is he, hc, RK, he, if_true]
 ·have hd : (decide (((i : Nat) : Int) < (es.length : Int))) = false := by simp; omega
  simp only [hd, cond_false]
  by_cases hn : i = es.length
  ·have hb : (((i : Nat) : Int) == (es.length : Int)) = true := by simp [hn]
   simp only [hb, Bool.true_and]
   have hc : code es t i = tco t := by simp [code, hn]
   rw [hc]
   rcases (by omega : t = 0 ∨ t = 1 ∨ t = 2) with rfl | rfl | rfl <;> rfl
  ·have hb : (((i : Nat) : Int) == (es.length : Int)) = false := by simp; omega
   have hc : code es t i = 13 := by simp [code, hi, hn]
   simp only [hb, Bool.false_and, cond_false, hc]
   rfl
def sg (a b : Int) : Int := if a < b then -1 else if b < a then 1 else 0
theorem cmp_is (a b : Int) : F152_cmp_Compare_int a b = some (sg a b) := by
 have hn : ∀ x : Int, F198_cmp_isNaN_int x = some false := fun x => by simp [F198_cmp_isNaN_int, bnd]
 simp only [F152_cmp_Compare_int, hn, Option.bind_some, cond_false, sg]
 by_cases h1 : a < b
 ·simp [h1]
 ·by_cases h2 : b < a
  ·have h3 : a > b := h2
   simp [h1, h2]
  ·have h3 : ¬ a > b := h2
   simp [h1, h2]
theorem or_is (a b : Int) : F151_cmp_Or_int [a, b] = some (if a = 0 then b else a) := by
 have e0 : idx ([a, b] : List Int) 0 = some a := rfl
 have e1 : idx ([a, b] : List Int) 1 = some b := rfl
 have hl : ((List.length ([a, b] : List Int) : Nat) : Int) = 2 := rfl
 by_cases ha : a = 0
 ·subst ha
  by_cases hb : b = 0
  ·subst hb
   have : loopO (fun s : Int => F151_cmp_Or_int_l0 [0, 0] s) 0 = some (.inl ()) :=
    (loop2 (s' := 1) (by rfl)).trans ((loop2 (s' := 2) (by rfl)).trans (loop3 (by rfl)))
   simp [F151_cmp_Or_int, this, lret]
  ·have hbb : (b != 0) = true := by simpa using hb
   have s1 : F151_cmp_Or_int_l0 [0, b] 1 = some (.inr (.inr b)) := by
    simp only [F151_cmp_Or_int_l0, hl, e1, Option.bind_some, hbb, cond_true]; rfl
   have : loopO (fun s : Int => F151_cmp_Or_int_l0 [0, b] s) 0 = some (.inr b) := (loop2 (s' := 1) (by rfl)).trans (loop3 s1)
   simp [F151_cmp_Or_int, this, lret]
 ·have haa : (a != 0) = true := by simpa using ha
  have s1 : F151_cmp_Or_int_l0 [a, b] 0 = some (.inr (.inr a)) := by
   simp only [F151_cmp_Or_int_l0, hl, e0, Option.bind_some, haa, cond_true]; rfl
  have : loopO (fun s : Int => F151_cmp_Or_int_l0 [a, b] s) 0 = some (.inr a) := loop3 s1
  simp [F151_cmp_Or_int, this, lret, ha]
/-- The order of places. -/
def ords : List Int := [2, 3, 4, 1, 0, 11, 9, 10, 5, 7, 8, 6, 12, 13, 14]
def ORD (c : Nat) : Int := ords.getD c 0
def cR (c d : Nat) : Int := if sg (RK c).1 (RK d).1 = 0 then Lib.compareBytes (RK c).2 (RK d).2 else sg (RK c).1 (RK d).1
theorem cR_all : (List.range 15).all (fun c => (List.range 15).all fun d => decide (cR c d = sg (ORD c) (ORD d)) && (decide (c = d) == decide (ORD c = ORD d))) = true := by kernel_rfl
theorem cR_is {c d : Nat} (hc : c < 15) (hd : d < 15) : cR c d = sg (ORD c) (ORD d) ∧ (ORD c = ORD d → c = d) := by
 have := List.all_eq_true.1 (List.all_eq_true.1 cR_all c (List.mem_range.2 hc)) d (List.mem_range.2 hd)
 simp only [Bool.and_eq_true, decide_eq_true_eq, beq_iff_eq] at this
 refine ⟨this.1, fun h => ?_⟩
 have h2 := this.2
 rw [decide_eq_true h] at h2
 exact of_decide_eq_true h2
theorem code_lt {es : List Nat} {t : Nat} (h : ∀ e ∈ es, e < 12) (i : Nat) : code es t i < 15 := by
 unfold code tco
 split
 ·rename_i hi
  have := h _ (List.getElem_mem hi)
  simp [hi]; omega
 ·split
  ·split <;> (try split) <;> omega
  ·omega
/-- What two patterns compare to. -/
def Cmp (o o' : Nat → Int) (k : Int) : Prop := (k = 0 ∧ ∀ i, o i = o' i) ∨ (∃ j, (∀ i, i < j → o i = o' i) ∧ o j ≠ o' j ∧ k = sg (o j) (o' j))
def OR (es : List Nat) (t : Nat) (i : Nat) : Int := ORD (code es t i)
theorem before_is {es es' : List Nat} {t t' : Nat} (h : ∀ e ∈ es, e < 12) (ht : t < 3) (hl : es.length ≤ 4) (h' : ∀ e ∈ es', e < 12) (ht' : t' < 3) (hl' : es'.length ≤ 4) :
  ∃ k, F90_dialplan_before (PT es t) (PT es' t') = some k ∧ Cmp (OR es t) (OR es' t') k := by
 obtain ⟨e, h1, h2⟩ := loopO_ind (step := fun s : Int => F90_dialplan_before_l0 (PT es t) (PT es' t') s)
  (fun q => 0 ≤ q ∧ q ≤ gmax (es.length : Int) (es'.length : Int) + 1 ∧ ∀ i : Nat, (i : Int) < q → OR es t i = OR es' t' i)
  (fun e => match e with
   | .inl _ => Cmp (OR es t) (OR es' t') 0
   | .inr k => Cmp (OR es t) (OR es' t') k) (fun q => (gmax (es.length : Int) (es'.length : Int) + 1 - q).toNat) (fun q hq => by
   obtain ⟨q0, q1, q2⟩ := hq
   simp only [F90_dialplan_before_l0, sets_len]
   have hmx : (es.length : Int) ≤ gmax (es.length : Int) (es'.length : Int) ∧ (es'.length : Int) ≤ gmax (es.length : Int) (es'.length : Int) ∧ gmax (es.length : Int) (es'.length : Int) ≤ 4 := by unfold gmax; split <;> omega
   by_cases hlt : q ≤ gmax (es.length : Int) (es'.length : Int)
   ·obtain ⟨i, rfl⟩ := Int.eq_ofNat_of_zero_le q0
    have hd : (decide (((i : Nat) : Int) ≤ gmax (es.length : Int) (es'.length : Int))) = true := by simpa using hlt
    obtain ⟨c1, c2⟩ := cR_is (code_lt (t := t) h i) (code_lt (t := t') h' i)
    have hs : F119_strings_Compare (RK (code es t i)).2 (RK (code es' t' i)).2 = some (Lib.compareBytes (RK (code es t i)).2 (RK (code es' t' i)).2) := rfl
    simp only [hd, cond_true, rank_is h ht, rank_is h' ht', Option.bind_some, cmp_is, hs, or_is, bnd]
    have hv : (if sg (RK (code es t i)).1 (RK (code es' t' i)).1 = 0 then Lib.compareBytes (RK (code es t i)).2 (RK (code es' t' i)).2 else sg (RK (code es t i)).1 (RK (code es' t' i)).1) = sg (OR es t i) (OR es' t' i) := c1
    rw [hv]
    by_cases hne : OR es t i = OR es' t' i
    ·have hz : (sg (OR es t i) (OR es' t' i) != 0) = false := by rw [hne]; simp [sg]
     rw [hz]
     simp only [cond_false]
     rw [w64 (by omega) (by omega)]
     refine .inr ⟨_, rfl, ⟨by omega, by omega, fun j hj => ?_⟩, by omega⟩
     by_cases e : j = i
     ·subst e; exact hne
     ·exact q2 j (by omega)
    ·have hz : (sg (OR es t i) (OR es' t' i) != 0) = true := by
      simp only [sg]
      by_cases h1 : OR es t i < OR es' t' i
      ·simp [h1]
      ·have h2 : OR es' t' i < OR es t i := by omega
       simp [h1, h2]
     rw [hz]
     exact .inl ⟨_, rfl, .inr ⟨i, fun j hj => q2 j (by omega), hne, rfl⟩⟩
   ·refine .inl ⟨.inl (), by simp [hlt], .inl ⟨rfl, fun i => ?_⟩⟩
    by_cases hi : (i : Int) < q
    ·exact q2 i hi
    ·have e1 : code es t i = 13 := by unfold code; rw [if_neg (by omega), if_neg (by omega)]
     have e2 : code es' t' i = 13 := by unfold code; rw [if_neg (by omega), if_neg (by omega)]
     simp only [OR, e1, e2]) 0 ⟨by omega, by unfold gmax; split <;> omega, fun i hi => by omega⟩
 simp only [F90_dialplan_before, h1, lret]
 match e, h2 with
 | .inl _, h2 => exact ⟨0, rfl, h2⟩
 | .inr k, h2 => exact ⟨k, rfl, h2⟩
theorem sg_cases (a b : Int) : (sg a b = -1 ∧ a < b) ∨ (sg a b = 1 ∧ b < a) ∨ (sg a b = 0 ∧ a = b) := by unfold sg; split; exact .inl ⟨rfl, by assumption⟩; split; exact .inr (.inl ⟨rfl, by assumption⟩); exact .inr (.inr ⟨rfl, by omega⟩)
theorem Cmp.anti {o o' : Nat → Int} {k k' : Int} (h : Cmp o o' k) (h' : Cmp o' o k') : k = -k' := by
 rcases h with ⟨rfl, h⟩ | ⟨j, h1, h2, rfl⟩
 ·rcases h' with ⟨rfl, _⟩ | ⟨j', _, h4, _⟩
  ·rfl
  ·exact absurd (h j').symm h4
 ·rcases h' with ⟨_, h⟩ | ⟨j', h3, h4, rfl⟩
  ·exact absurd (h j).symm h2
  ·have : j = j' := by
    rcases Nat.lt_trichotomy j j' with hlt | he | hgt
    ·exact absurd (h3 j hlt).symm h2
    ·exact he
    ·exact absurd (h1 j' hgt).symm h4
   subst this
   rcases sg_cases (o j) (o' j) with ⟨a, b⟩ | ⟨a, b⟩ | ⟨a, b⟩ <;> rcases sg_cases (o' j) (o j) with ⟨c, d⟩ | ⟨c, d⟩ | ⟨c, d⟩ <;> omega
theorem Cmp.trans {o o' o'' : Nat → Int} {k k' k'' : Int} (h : Cmp o o' k) (h' : Cmp o' o'' k') (h'' : Cmp o o'' k'') (hk : k < 0) (hk' : k' < 0) : k'' < 0 := by
 rcases h with ⟨rfl, _⟩ | ⟨j, h1, h2, rfl⟩
 ·omega
 rcases h' with ⟨rfl, _⟩ | ⟨j', h3, h4, rfl⟩
 ·omega
 have a1 : o j < o' j := by rcases sg_cases (o j) (o' j) with ⟨a, b⟩ | ⟨a, b⟩ | ⟨a, b⟩ <;> omega
 have a2 : o' j' < o'' j' := by rcases sg_cases (o' j') (o'' j') with ⟨a, b⟩ | ⟨a, b⟩ | ⟨a, b⟩ <;> omega
 obtain ⟨m, m1, m2⟩ : ∃ m, (∀ i, i < m → o i = o'' i) ∧ o m < o'' m := by
  rcases Nat.lt_trichotomy j j' with hlt | he | hgt
  ·exact ⟨j, fun i hi => (h1 i hi).trans (h3 i (by omega)), by have := h3 j hlt; omega⟩
  ·subst he; exact ⟨j, fun i hi => (h1 i hi).trans (h3 i hi), by omega⟩
  ·exact ⟨j', fun i hi => (h1 i (by omega)).trans (h3 i hi), by have := h1 j' hgt; omega⟩
 rcases h'' with ⟨_, h⟩ | ⟨n, h5, h6, rfl⟩
 ·have := h m; omega
 ·have : n = m := by
   rcases Nat.lt_trichotomy n m with hlt | he | hgt
   ·exact absurd (m1 n hlt) h6
   ·exact he
   ·have := h5 m hgt; omega
  subst this
  rcases sg_cases (o n) (o'' n) with ⟨a, b⟩ | ⟨a, b⟩ | ⟨a, b⟩ <;> omega
/-- Equal places: equal patterns. -/
theorem same_is {es es' : List Nat} {t t' : Nat} (h : ∀ e ∈ es, e < 12) (ht : t < 3) (h' : ∀ e ∈ es', e < 12) (ht' : t' < 3) (ho : ∀ i, OR es t i = OR es' t' i) : es = es' ∧ t = t' := by
 have hc : ∀ i, code es t i = code es' t' i := fun i => (cR_is (code_lt (t := t) h i) (code_lt (t := t') h' i)).2 (ho i)
 have tc : ∀ t, 12 ≤ tco t := fun t => by unfold tco; split <;> (try split) <;> omega
 have lt : ∀ {es : List Nat} {t : Nat}, (∀ e ∈ es, e < 12) → ∀ i, i < es.length → code es t i < 12 := fun {es t} h i hi => by
  have := h _ (List.getElem_mem hi)
  simp [code, hi]; exact this
 have ge : ∀ {es : List Nat} {t : Nat}, 12 ≤ code es t es.length := fun {es t} => by simp [code]; exact tc t
 have hlen : es.length = es'.length := by
  rcases Nat.lt_trichotomy es.length es'.length with hlt | he | hgt
  ·have a := lt (t := t') h' _ hlt; have b := ge (es := es) (t := t); have := hc es.length; omega
  ·exact he
  ·have a := lt (t := t) h _ hgt; have b := ge (es := es') (t := t'); have := hc es'.length; omega
 refine ⟨List.ext_getElem hlen fun i h1 h2 => ?_, ?_⟩
 ·have := hc i
  simpa [code, h1, h2] using this
 ·have := hc es.length
  have e1 : code es t es.length = tco t := by simp [code]
  have e2 : code es' t' es.length = tco t' := by rw [hlen]; simp [code]
  rw [e1, e2] at this
  rcases (by omega : t = 0 ∨ t = 1 ∨ t = 2) with rfl | rfl | rfl <;> rcases (by omega : t' = 0 ∨ t' = 1 ∨ t' = 2) with rfl | rfl | rfl <;> simp [tco] at this ⊢

end Go.Proofs.YtagbgmkocjfanaaGreatDoor

/-
 Dial plans: what patterns match, and what they share.
-/
namespace Go.Proofs.YtagbgmkocjfanaaGreatDoor
open Go Go.Abs
set_option maxRecDepth 100000
set_option maxHeartbeats 1000000

/-- What a pattern takes at a place, and whether it may end there. -/
def mcs : List Int := mks ++ [4095, 0]
def MC (c : Nat) : Int := mcs.getD c 0
def mc (es : List Nat) (t : Nat) (i : Nat) : Nat := if i < es.length then es.getD i 0 else if t = 0 then 13 else 12
def ed (es : List Nat) (t : Nat) (i : Nat) : Bool := if i < es.length then false else if t = 0 then i == es.length else if t = 1 then decide (es.length < i) else true
theorem mc_lt {es : List Nat} {t : Nat} (h : ∀ e ∈ es, e < 12) (i : Nat) : mc es t i < 14 := by
 unfold mc
 split
 ·rename_i hi
  have := h _ (List.getElem_mem hi)
  simp [hi]; omega
 ·split <;> omega
theorem takes_is {es : List Nat} {t : Nat} (h : ∀ e ∈ es, e < 12) (ht : t < 3) (i : Nat) : F153_dialplan_pattern_takes (PT es t) (i : Int) = some (MC (mc es t i), ed es t i) := by
 simp only [F153_dialplan_pattern_takes, bnd, sets_len]
 by_cases hi : i < es.length
 ·have hd : (decide (((i : Nat) : Int) < (es.length : Int))) = true := by simp; exact hi
  have hm : i < (es.map MK).length := by simpa using hi
  have he := h _ (List.getElem_mem hi)
  have hidx : idx (PT es t).sets (i : Int) = some (MK es[i]) := by
   show idx (es.map MK) (i : Int) = _
   rw [idx_at hm]; simp
  have hc : mc es t i = es[i] := by simp [mc, hi]
  have hmk : MC es[i] = MK es[i] := by
   rcases (by omega : es[i] = 0 ∨ es[i] = 1 ∨ es[i] = 2 ∨ es[i] = 3 ∨ es[i] = 4 ∨ es[i] = 5 ∨ es[i] = 6 ∨ es[i] = 7 ∨ es[i] = 8 ∨ es[i] = 9 ∨ es[i] = 10 ∨ es[i] = 11) with q | q | q | q | q | q | q | q | q | q | q | q <;> rw [q] <;> rfl
  simp only [hd, cond_true, hidx, Option.bind_some, hc, hmk, ed, hi, if_true]
 ·have hd : (decide (((i : Nat) : Int) < (es.length : Int))) = false := by simp; omega
  have hgt : (decide (((i : Nat) : Int) > (es.length : Int))) = decide (es.length < i) := by simp
  have heq : (((i : Nat) : Int) == (es.length : Int)) = (i == es.length) := by
   rw [Bool.eq_iff_iff]; simp only [beq_iff_eq]; omega
  simp only [hd, cond_false, hgt, heq, mc, ed, hi, if_false]
  rcases (by omega : t = 0 ∨ t = 1 ∨ t = 2) with rfl | rfl | rfl <;> rfl
/-- Is a sign in a set? -/
def has (c b : Nat) : Bool := (MC c / 2 ^ b) % 2 == 1
theorem only_all : (List.range 12).all (fun b => F155_dialplan_only ((SG b).toNat : Int) == some (2 ^ b)) = true := by kernel_rfl
theorem only_is {b : Nat} (hb : b < 12) : F155_dialplan_only ((SG b).toNat : Int) = some (2 ^ b) := by simpa using List.all_eq_true.1 only_all b (List.mem_range.2 hb)
theorem has_all : (List.range 14).all (fun c => (List.range 12).all fun b => (gand .u16 (MC c) (2 ^ b) == 0) == !(has c b)) = true := by kernel_rfl
theorem has_is {c b : Nat} (hc : c < 14) (hb : b < 12) : (gand .u16 (MC c) (2 ^ b) == 0) = !(has c b) := by
 simpa using List.all_eq_true.1 (List.all_eq_true.1 has_all c (List.mem_range.2 hc)) b (List.mem_range.2 hb)
/-- Does a pattern match signs? -/
def mt (es : List Nat) (t : Nat) (bs : List Nat) : Prop := (∀ i (h : i < bs.length), has (mc es t i) bs[i] = true) ∧ ed es t bs.length = true
theorem begins_is {es : List Nat} {t : Nat} (h : ∀ e ∈ es, e < 12) (ht : t < 3) (bs : List Nat) (hb : ∀ b ∈ bs, b < 12) (hl : bs.length ≤ 100) :
  ∃ s w, F94_dialplan_pattern_begins (PT es t) (bs.map SG) = some (s, w) ∧ (w = true ↔ mt es t bs) := by
 obtain ⟨e, h1, h2⟩ := loopO_ind (step := fun s : Int => F94_dialplan_pattern_begins_l0 (PT es t) (bs.map SG) s)
  (fun q => 0 ≤ q ∧ q ≤ bs.length ∧ ∀ i (h : i < bs.length), (i : Int) < q → has (mc es t i) bs[i] = true)
  (fun e => match e with
   | .inl _ => ∀ i (h : i < bs.length), has (mc es t i) bs[i] = true
   | .inr r => r = (false, false) ∧ ¬ mt es t bs) (fun q => (bs.length - q).toNat) (fun q hq => by
   obtain ⟨q0, q1, q2⟩ := hq
   have hln : ((List.length (bs.map SG) : Nat) : Int) = (bs.length : Int) := by simp
   simp only [F94_dialplan_pattern_begins_l0, hln]
   by_cases hlt : q < bs.length
   ·obtain ⟨i, rfl⟩ := Int.eq_ofNat_of_zero_le q0
    have hi : i < bs.length := by omega
    have hm : i < (bs.map SG).length := by simpa using hi
    have hd : (decide (((i : Nat) : Int) < (bs.length : Int))) = true := by simp; exact hi
    have hbi := hb _ (List.getElem_mem hi)
    have hid : idx (bs.map SG) (i : Int) = some (SG bs[i]) := by rw [idx_at hm]; simp
    simp only [hd, cond_true, takes_is h ht, hid, Option.bind_some, only_is hbi, has_is (mc_lt (t := t) h i) hbi]
    cases hh : has (mc es t i) bs[i] with
    | true =>
     simp only [Bool.not_true, cond_false]
     rw [w64 (by omega) (by omega)]
     refine .inr ⟨_, rfl, ⟨by omega, by omega, fun j hj hlt2 => ?_⟩, by omega⟩
     by_cases e : j = i
     ·subst e; exact hh
     ·exact q2 j hj (by omega)
    | false =>
     simp only [Bool.not_false, cond_true]
     exact .inl ⟨_, rfl, rfl, fun hmt => by have := hmt.1 i hi; rw [hh] at this; simp at this⟩
   ·exact .inl ⟨.inl (), by simp [hlt], fun i hi => q2 i hi (by omega)⟩) 0 ⟨by omega, by omega, fun i hi hlt => by omega⟩
 have hln : ((List.length (bs.map SG) : Nat) : Int) = (bs.length : Int) := by simp
 simp only [F94_dialplan_pattern_begins, h1, lret]
 match e, h2 with
 | .inl _, h2 =>
  simp only [hln, takes_is h ht, Option.bind_some, bnd]
  exact ⟨_, _, rfl, fun hw => ⟨h2, hw⟩, fun hw => hw.2⟩
 | .inr r, h2 =>
  obtain ⟨rfl, h3⟩ := h2
  exact ⟨_, _, rfl, fun hw => by simp at hw, fun hw => absurd hw h3⟩
theorem sgs_trim (bs : List Nat) (hb : ∀ b ∈ bs, b < 12) : Lib.trimS (bs.map SG) [35, 42, 48, 49, 50, 51, 52, 53, 54, 55, 56, 57] = [] := by
 have key : ∀ l : List UInt8, (∀ x ∈ l, ([35, 42, 48, 49, 50, 51, 52, 53, 54, 55, 56, 57] : List UInt8).contains x = true) → l.dropWhile (([35, 42, 48, 49, 50, 51, 52, 53, 54, 55, 56, 57] : List UInt8).contains ·) = [] := by
  intro l
  induction l with
  | nil => intro _; rfl
  | cons a l ih => intro h; rw [List.dropWhile_cons_of_pos (h a (by simp))]; exact ih fun x hx => h x (List.mem_cons_of_mem _ hx)
 have hc : ∀ b, b < 12 → ([35, 42, 48, 49, 50, 51, 52, 53, 54, 55, 56, 57] : List UInt8).contains (SG b) = true := by
  intro b hb
  rcases (by omega : b = 0 ∨ b = 1 ∨ b = 2 ∨ b = 3 ∨ b = 4 ∨ b = 5 ∨ b = 6 ∨ b = 7 ∨ b = 8 ∨ b = 9 ∨ b = 10 ∨ b = 11) with rfl | rfl | rfl | rfl | rfl | rfl | rfl | rfl | rfl | rfl | rfl | rfl <;> decide
 have h1 : Lib.trimRightS (bs.map SG) [35, 42, 48, 49, 50, 51, 52, 53, 54, 55, 56, 57] = [] := by
  unfold Lib.trimRightS
  rw [key _ fun x hx => ?_]
  ·rfl
  ·rw [List.mem_reverse, List.mem_map] at hx
   obtain ⟨b, hb1, rfl⟩ := hx
   exact hc b (hb b hb1)
 unfold Lib.trimS
 rw [h1]; rfl
theorem isDialled_is (bs : List Nat) (hb : ∀ b ∈ bs, b < 12) (h1 : 1 ≤ bs.length) (h2 : bs.length ≤ 30) : F93_dialplan_isDialled (bs.map SG) 1 = some true := by
 have hln : ((List.length (bs.map SG) : Nat) : Int) = (bs.length : Int) := by simp
 have c1 : (decide ((bs.length : Int) ≥ 1)) = true := by simp; omega
 have c2 : (decide ((bs.length : Int) ≤ 30)) = true := by simp; omega
 have hok : trimOk (bs.map SG) [35, 42, 48, 49, 50, 51, 52, 53, 54, 55, 56, 57] = true := by
  have : (bs.map SG).length ≤ 9223372036854775807 := by simp; omega
  simp only [trimOk, decide_eq_true this, Bool.true_and]; rfl
 simp only [F93_dialplan_isDialled, hln, c1, c2, Bool.and_self, cond_true, F132_trim, hok, if_true, Option.bind_some, sgs_trim bs hb, beq_self_eq_true]

end Go.Proofs.YtagbgmkocjfanaaGreatDoor

/-
 Dial plans: hours that are drawn are right; are they open.
-/
namespace Go.Proofs.YtagbgmkocjfanaaGreatDoor
open Go Go.Abs
set_option maxRecDepth 100000
set_option maxHeartbeats 1000000

theorem pick_in (s : T_flashmake_Stream) (l : List Int) (k : Int) (hs : SOk s k) (hk : k ≤ 1000000) (hl : 0 < l.length) (hl2 : l.length ≤ 1000) : ∃ r, F27_flashmake_Stream_Pick s l = some (⟨s.L, s.at_ + 1⟩, r) ∧ r ∈ l := by
 obtain ⟨r, e, r1, r2⟩ := next_is s l.length k hs (by omega) (by omega) (by omega)
 obtain ⟨x, hx, hm⟩ := idx_of r1 r2
 exact ⟨x, by simp [F27_flashmake_Stream_Pick, e, hx], hm⟩
theorem flip_is (s : T_flashmake_Stream) (n k : Int) (hs : SOk s k) (hk : k ≤ 1000000) (h1 : 1 ≤ n) (h2 : n ≤ 1000) : ∃ b, F51_flashmake_Stream_Flip s n = some (⟨s.L, s.at_ + 1⟩, b) := by
 obtain ⟨r, e, r1, r2⟩ := next_is s n k hs (by omega) (by omega) (by omega)
 exact ⟨r == 0, by simp [F51_flashmake_Stream_Flip, e, bnd]⟩

def RowOk (r : T_api_Row) : Prop := 1 ≤ r.Days ∧ r.Days ≤ 127 ∧ 0 ≤ r.From ∧ r.From < r.To ∧ r.To ≤ 1440
def HolOk (d : T_api_Holiday) : Prop := 0 ≤ d.Day ∧ d.Day ≤ 4000 ∧ (d.From = 0 ∧ d.To = 0 ∨ 0 ≤ d.From ∧ d.From < d.To ∧ d.To ≤ 1440)
def HGood (h : T_api_Hours) : Prop := -1440 ≤ h.Zone ∧ h.Zone ≤ 1440 ∧ h.Rows.length ≤ 2 ∧ (∀ r ∈ h.Rows, RowOk r) ∧ h.Holidays.length ≤ 3 ∧ (∀ d ∈ h.Holidays, HolOk d) ∧ (h.Holidays.map (·.Day)).Pairwise (· < ·)

theorem rows_is (y : T_flashmake_Stream × Int) (hy : y.2 ≤ 2) (s0 : T_flashmake_Stream) (k : Int) (hs : SOk s0 k) (hk : k ≤ 1000) (ky : List UInt8) (z : Int) :
  ∃ rows s', loopO (fun s : Int × T_api_Hours × T_flashmake_Stream => F72_flashmake_Stream_RightHours_l1 y s.1 s.2.1 s.2.2) (0, ⟨ky, z, [], []⟩, s0) = some (⟨ky, z, rows, []⟩, s') ∧ rows.length ≤ 2 ∧ (∀ r ∈ rows, RowOk r) ∧ SOk s' (k + 6) := by
 obtain ⟨e, h1, h2⟩ := loopO_ind (step := fun s : Int × T_api_Hours × T_flashmake_Stream => F72_flashmake_Stream_RightHours_l1 y s.1 s.2.1 s.2.2)
  (fun q => 0 ≤ q.1 ∧ q.1 ≤ 2 ∧ (∃ rows, q.2.1 = ⟨ky, z, rows, []⟩ ∧ (rows.length : Int) = q.1 ∧ ∀ r ∈ rows, RowOk r) ∧ SOk q.2.2 (k + 3 * q.1))
  (fun e => (∃ rows, e.1 = ⟨ky, z, rows, []⟩ ∧ rows.length ≤ 2 ∧ ∀ r ∈ rows, RowOk r) ∧ SOk e.2 (k + 6)) (fun q => (2 - q.1).toNat) (fun q hq => by
   obtain ⟨n, h, s⟩ := q
   obtain ⟨q0, q1, ⟨rows, rfl, q2, q3⟩, q4⟩ := hq
   simp only [] at q0 q1 q2 q3 q4
   simp only [F72_flashmake_Stream_RightHours_l1]
   by_cases hlt : n < y.2
   ·obtain ⟨a, e1, a1⟩ := pick_in s [0, 60, 540, 720] _ q4 (by omega) (by simp) (by simp)
    obtain ⟨b, e2, b1⟩ := pick_in ⟨s.L, s.at_ + 1⟩ [127, 31, 1, 64, 32, 5] _ q4.one (by omega) (by simp) (by simp)
    obtain ⟨c, e3, c1⟩ := pick_in ⟨s.L, s.at_ + 1 + 1⟩ [1, 60, 300, 720] _ q4.one.one (by omega) (by simp) (by simp)
    have a2 : 0 ≤ a ∧ a ≤ 720 := by simp at a1; omega
    have b2 : 1 ≤ b ∧ b ≤ 127 := by simp at b1; omega
    have c2 : 1 ≤ c ∧ c ≤ 720 := by simp at c1; omega
    refine .inr ⟨(n + 1, ⟨ky, z, rows ++ [⟨b, a, a + c⟩], []⟩, ⟨s.L, s.at_ + 1 + 1 + 1⟩), ?_, ⟨by (try simp only []); omega, by (try simp only []); omega, ⟨_, rfl, by simp; omega, ?_⟩, ?_⟩, by (try simp only []); omega⟩
    ·rw [e1]; simp only [hlt, decide_true, cond_true, Option.bind_some]
     rw [e2]; simp only [Option.bind_some]
     rw [e3]; simp only [Option.bind_some]
     rw [app_of (by simp; omega) (by simp; omega), w64 (by omega) (by omega), w64 (by omega) (by omega)]
     rfl
    ·intro r hr
     rcases List.mem_append.1 hr with hr | hr
     ·exact q3 r hr
     ·simp at hr; subst hr
      exact ⟨b2.1, b2.2, a2.1, by (try simp only []); omega, by (try simp only []); omega⟩
    ·exact q4.one.one.one.up (by (try simp only []); omega)
   ·exact .inl ⟨(⟨ky, z, rows, []⟩, s), by simp [hlt], ⟨rows, rfl, by omega, q3⟩, q4.up (by omega)⟩) (0, ⟨ky, z, [], []⟩, s0) ⟨by simp, by simp, ⟨[], rfl, by simp, by simp⟩, by simpa using hs⟩
 obtain ⟨e1, e2⟩ := e
 obtain ⟨⟨rows, rfl, h3, h4⟩, h5⟩ := h2
 exact ⟨rows, e2, h1, h3, h4, h5⟩

def dayI (n : Int) : Int := if n = 0 then 0 else if n = 1 then 2 else 3
theorem hols_is (s0 : T_flashmake_Stream) (k : Int) (hs : SOk s0 k) (hk : k ≤ 1000) (ky : List UInt8) (z : Int) (rows : List T_api_Row) :
  ∃ hol s', loopO (fun s : Int × T_api_Hours × T_flashmake_Stream => F72_flashmake_Stream_RightHours_l2 s.1 s.2.1 s.2.2) (0, ⟨ky, z, rows, []⟩, s0) = some (⟨ky, z, rows, hol⟩, s') ∧ hol.length ≤ 3 ∧ (∀ d ∈ hol, HolOk d) ∧
   (hol.map (·.Day)).Pairwise (· < ·) ∧ SOk s' (k + 12) := by
 obtain ⟨e, h1, h2⟩ := loopO_ind (step := fun s : Int × T_api_Hours × T_flashmake_Stream => F72_flashmake_Stream_RightHours_l2 s.1 s.2.1 s.2.2)
  (fun q => 0 ≤ q.1 ∧ q.1 ≤ 3 ∧ (∃ hol, q.2.1 = ⟨ky, z, rows, hol⟩ ∧ (hol.length : Int) ≤ q.1 ∧ (∀ d ∈ hol, HolOk d) ∧ (hol.map (·.Day)).Pairwise (· < ·) ∧ ∀ d ∈ hol, q.1 ≤ 2 → d.Day < dayI q.1) ∧ SOk q.2.2 (k + 4 * q.1))
  (fun e => (∃ hol, e.1 = ⟨ky, z, rows, hol⟩ ∧ hol.length ≤ 3 ∧ (∀ d ∈ hol, HolOk d) ∧ (hol.map (·.Day)).Pairwise (· < ·)) ∧ SOk e.2 (k + 12)) (fun q => (3 - q.1).toNat) (fun q hq => by
   obtain ⟨n, h, s⟩ := q
   obtain ⟨q0, q1, ⟨hol, rfl, q2, q3, q5, q6⟩, q4⟩ := hq
   simp only [] at q0 q1 q2 q3 q4 q5 q6
   simp only [F72_flashmake_Stream_RightHours_l2]
   have hlen : ((List.length (([(0 : Int), (2 : Int), (3 : Int)] : List Int)) : Nat) : Int) = 3 := rfl
   rw [hlen]
   by_cases hlt : n < 3
   ·have hday : idx ([0, 2, 3] : List Int) n = some (dayI n) := by
     rcases (by omega : n = 0 ∨ n = 1 ∨ n = 2) with rfl | rfl | rfl <;> rfl
    have hd1 : 0 ≤ dayI n ∧ dayI n ≤ 3 := by unfold dayI; split <;> (try split) <;> omega
    have hd2 : n + 1 ≤ 2 → dayI n < dayI (n + 1) := by
     intro hn
     rcases (by omega : n = 0 ∨ n = 1) with rfl | rfl <;> decide
    obtain ⟨f1, e1⟩ := flip_is s 3 _ q4 (by omega) (by omega) (by omega)
    have add : ∀ (a b : Int), (a = 0 ∧ b = 0 ∨ 0 ≤ a ∧ a < b ∧ b ≤ 1440) → ∃ hol', hol' = hol ++ [⟨dayI n, a, b⟩] ∧ (hol'.length : Int) ≤ n + 1 ∧ (∀ d ∈ hol', HolOk d) ∧ (hol'.map (·.Day)).Pairwise (· < ·) ∧ ∀ d ∈ hol', n + 1 ≤ 2 → d.Day < dayI (n + 1) := by
     intro a b hab
     refine ⟨_, rfl, by simp; omega, fun d hd => ?_, ?_, fun d hd hn => ?_⟩
     ·rcases List.mem_append.1 hd with hd | hd
      ·exact q3 d hd
      ·simp at hd; subst hd; exact ⟨hd1.1, by (try simp only []); omega, hab⟩
     ·rw [List.map_append, List.pairwise_append]
      refine ⟨q5, by simp, fun x hx y hy => ?_⟩
      simp only [List.map_cons, List.map_nil, List.mem_singleton] at hy
      subst hy
      obtain ⟨d, hd, rfl⟩ := List.mem_map.1 hx
      exact q6 d hd (by omega)
     ·rcases List.mem_append.1 hd with hd | hd
      ·have := q6 d hd (by omega); have := hd2 hn; omega
      ·simp at hd; subst hd; exact hd2 hn
    cases f1 with
    | false =>
     refine .inr ⟨(n + 1, ⟨ky, z, rows, hol⟩, ⟨s.L, s.at_ + 1⟩), ?_, ⟨by (try simp only []); omega, by (try simp only []); omega, ⟨hol, rfl, by (try simp only []); omega, q3, q5, fun d hd hn => ?_⟩, q4.one.up (by (try simp only []); omega)⟩, by (try simp only []); omega⟩
     ·simp only [hlt, decide_true, cond_true, hday, Option.bind_some, e1, Bool.not_false]
      rw [w64 (by omega) (by omega)]
     ·simp only [] at hn; have := q6 d hd (by omega); have := hd2 hn; (try simp only []); omega
    | true =>
     obtain ⟨f2, e2⟩ := flip_is ⟨s.L, s.at_ + 1⟩ 2 _ q4.one (by omega) (by omega) (by omega)
     cases f2 with
     | false =>
      obtain ⟨hol', he, p1, p2, p3, p4⟩ := add 0 0 (.inl ⟨rfl, rfl⟩)
      refine .inr ⟨(n + 1, ⟨ky, z, rows, hol'⟩, ⟨s.L, s.at_ + 1 + 1⟩), ?_, ⟨by (try simp only []); omega, by (try simp only []); omega, ⟨hol', rfl, p1, p2, p3, p4⟩, q4.one.one.up (by (try simp only []); omega)⟩, by (try simp only []); omega⟩
      subst he
      simp only [hlt, decide_true, cond_true, hday, Option.bind_some, e1, e2, Bool.not_true, cond_false]
      rw [app_of (by simp; omega) (by simp; omega), w64 (by omega) (by omega)]
      rfl
     | true =>
      obtain ⟨a, e3, a1⟩ := pick_in ⟨s.L, s.at_ + 1 + 1⟩ [0, 540] _ q4.one.one (by omega) (by simp) (by simp)
      obtain ⟨b, e4, b1⟩ := pick_in ⟨s.L, s.at_ + 1 + 1 + 1⟩ [600, 1440] _ q4.one.one.one (by omega) (by simp) (by simp)
      have a2 : 0 ≤ a ∧ a ≤ 540 := by simp at a1; omega
      have b2 : 600 ≤ b ∧ b ≤ 1440 := by simp at b1; omega
      obtain ⟨hol', he, p1, p2, p3, p4⟩ := add a b (.inr ⟨a2.1, by omega, by omega⟩)
      refine .inr ⟨(n + 1, ⟨ky, z, rows, hol'⟩, ⟨s.L, s.at_ + 1 + 1 + 1 + 1⟩), ?_, ⟨by (try simp only []); omega, by (try simp only []); omega, ⟨hol', rfl, p1, p2, p3, p4⟩, q4.one.one.one.one.up (by (try simp only []); omega)⟩, by (try simp only []); omega⟩
      subst he
      simp only [hlt, decide_true, cond_true, hday, Option.bind_some, e1, e2, e3, e4, Bool.not_true, cond_false]
      rw [app_of (by simp; omega) (by simp; omega), w64 (by omega) (by omega)]
      rfl
   ·exact .inl ⟨(⟨ky, z, rows, hol⟩, s), by simp [hlt], ⟨hol, rfl, by omega, q3, q5⟩, q4.up (by omega)⟩) (0, ⟨ky, z, rows, []⟩, s0) ⟨by simp, by simp, ⟨[], rfl, by simp, by simp, by simp, by simp⟩, by simpa using hs⟩
 obtain ⟨e1, e2⟩ := e
 obtain ⟨⟨hol, rfl, h3, h4, h6⟩, h5⟩ := h2
 exact ⟨hol, e2, h1, h3, h4, h6, h5⟩

theorem floor_is (x b : Int) (hb : 1 ≤ b) (h1 : -1000000000000 ≤ x) (h2 : x ≤ 1000000000000) (h3 : b ≤ 1000000000) : F190_dialplan_floor x b = some (x / b) := by
 have hb0 : ¬ b = 0 := by omega
 have hq := Int.mul_tdiv_add_tmod x b
 have he := Int.mul_ediv_add_emod x b
 have hm1 : 0 ≤ x % b := Int.emod_nonneg _ (by omega)
 have hm2 : x % b < b := Int.emod_lt_of_pos _ (by omega)
 have hlt : x.tmod b < b := Int.tmod_lt_of_pos _ (by omega)
 have hgt : -b < x.tmod b := by
  have := Int.tmod_lt_of_pos (-x) (b := b) (by omega)
  rw [Int.neg_tmod] at this; omega
 have hbnd : ∀ q r : Int, b * q + r = x → -b < r → r < b → -1000000000001 ≤ q ∧ q ≤ 1000000000001 := by
  intro q r e r1 r2
  constructor
  ·rcases (by omega : q < -1000000000001 ∨ -1000000000001 ≤ q) with hlt | hge
   ·have : b * q ≤ b * (-1000000000002) := Int.mul_le_mul_of_nonneg_left (by omega) (by omega)
    have h5 : b * (-1000000000002) ≤ -1000000000002 * 1 - (b - 1) * 1000000000002 := by omega
    omega
   ·exact hge
  ·rcases (by omega : 1000000000001 < q ∨ q ≤ 1000000000001) with hlt | hge
   ·have : b * 1000000000002 ≤ b * q := Int.mul_le_mul_of_nonneg_left (by omega) (by omega)
    omega
   ·exact hge
 have hb1 := hbnd _ _ hq hgt hlt
 simp only [F190_dialplan_floor, gquo, grem, hb0, if_false, Option.bind_some]
 rw [w64 (n := x.tdiv b) (by omega) (by omega)]
 by_cases hneg : x.tmod b < 0
 ·simp only [hneg, decide_true, cond_true, bnd, Option.bind_some]
  rw [w64 (n := x.tdiv b - 1) (by omega) (by omega)]
  congr 1
  have e : x = (x.tmod b + b) + b * (x.tdiv b - 1) := by rw [Int.mul_sub]; omega
  have : x / b = x.tdiv b - 1 := by
   conv => lhs; rw [e]
   rw [Int.add_mul_ediv_left _ _ hb0, Int.ediv_eq_zero_of_lt (by omega) (by omega)]; omega
  exact this.symm
 ·simp only [hneg, decide_false, cond_false, Option.bind_some]
  congr 1
  have e : x = x.tmod b + b * x.tdiv b := by omega
  have : x / b = x.tdiv b := by
   conv => lhs; rw [e]
   rw [Int.add_mul_ediv_left _ _ hb0, Int.ediv_eq_zero_of_lt (by omega) hlt]; omega
  exact this.symm

/-- Are hours open on a day, in a minute of it? -/
noncomputable def opD (h : T_api_Hours) (day minute : Int) : Option Bool :=
 lret (loopO (fun s : Int => F140_dialplan_isOpen_l0 h day minute s) ((0 : Int))) (fun _ => (F190_dialplan_floor day ((7 : Int))).bind fun y78 => lret (loopO (fun s : Int => F140_dialplan_isOpen_l1 h day minute y78 s) ((0 : Int))) (fun _ => some false) (fun r => some r)) (fun r => some r)
theorem opD_is (h : T_api_Hours) (hg : HGood h) (day minute : Int) (h1 : -100000 ≤ day) (h2 : day ≤ 100000) : ∃ b, opD h day minute = some b := by
 obtain ⟨_, _, r1, _, r2, _, _⟩ := hg
 obtain ⟨e, e1, _⟩ := loopO_ind (step := fun s : Int => F140_dialplan_isOpen_l0 h day minute s) (fun q => 0 ≤ q ∧ q ≤ h.Holidays.length) (fun _ => True) (fun q => (h.Holidays.length - q).toNat) (fun q hq => by
  obtain ⟨q0, q1⟩ := hq
  simp only [F140_dialplan_isOpen_l0]
  by_cases hlt : q < h.Holidays.length
  ·obtain ⟨k, rfl⟩ := Int.eq_ofNat_of_zero_le q0
   have hk : k < h.Holidays.length := by omega
   have hd : (decide (((k : Nat) : Int) < (h.Holidays.length : Int))) = true := by simp; exact hk
   rw [hd, idx_at hk]
   simp only [cond_true, Option.bind_some]
   cases hc : (h.Holidays[k].Day == day) with
   | true => exact .inl ⟨_, rfl, trivial⟩
   | false =>
    simp only [cond_false]
    rw [w64 (by omega) (by omega)]
    exact .inr ⟨_, rfl, ⟨by omega, by omega⟩, by omega⟩
  ·exact .inl ⟨.inl (), by simp [hlt], trivial⟩) 0 ⟨by omega, by omega⟩
 obtain ⟨f, f1, _⟩ := loopO_ind (step := fun s : Int => F140_dialplan_isOpen_l1 h day minute (day / 7) s) (fun q => 0 ≤ q ∧ q ≤ h.Rows.length) (fun _ => True) (fun q => (h.Rows.length - q).toNat) (fun q hq => by
  obtain ⟨q0, q1⟩ := hq
  simp only [F140_dialplan_isOpen_l1]
  by_cases hlt : q < h.Rows.length
  ·obtain ⟨k, rfl⟩ := Int.eq_ofNat_of_zero_le q0
   have hk : k < h.Rows.length := by omega
   have hd : (decide (((k : Nat) : Int) < (h.Rows.length : Int))) = true := by simp; exact hk
   rw [hd, idx_at hk]
   simp only [cond_true, Option.bind_some]
   rw [w64 (n := 7 * (day / 7)) (by omega) (by omega), w64 (n := day - 7 * (day / 7)) (by omega) (by omega)]
   have hn : ¬ (day - 7 * (day / 7) < 0) := by omega
   simp only [gshr, hn, if_false, Option.bind_some]
   generalize (((gand .i64 (h.Rows[k].Days.fdiv (2 ^ min (day - 7 * (day / 7)).toNat IntKind.i64.bits)) 1 != 0) && decide (minute ≥ h.Rows[k].From)) && decide (minute < h.Rows[k].To)) = c
   cases c with
   | true => exact .inl ⟨_, rfl, trivial⟩
   | false =>
    simp only [cond_false]
    rw [w64 (by omega) (by omega)]
    exact .inr ⟨_, rfl, ⟨by omega, by omega⟩, by omega⟩
  ·exact .inl ⟨.inl (), by simp [hlt], trivial⟩) 0 ⟨by omega, by omega⟩
 unfold opD
 rw [e1]
 match e with
 | .inr r => exact ⟨r, rfl⟩
 | .inl _ =>
  simp only [lret, floor_is day 7 (by omega) (by omega) (by omega) (by omega), Option.bind_some, f1]
  match f with
  | .inr r => exact ⟨r, rfl⟩
  | .inl _ => exact ⟨_, rfl⟩
/-- Are hours open in a minute? -/
noncomputable def op (h : T_api_Hours) (m : Int) : Bool := (opD h ((m + h.Zone) / 1440) ((m + h.Zone) % 1440)).getD false
theorem open_is (h : T_api_Hours) (hg : HGood h) (at_ : Int) (h1 : 0 ≤ at_) (h2 : at_ ≤ 1000000000) : F140_dialplan_isOpen h at_ = some (op h (at_ / 60000)) := by
 obtain ⟨z1, z2, _⟩ := id hg
 have e1 : (at_ + h.Zone * 60000) / 86400000 = (at_ / 60000 + h.Zone) / 1440 := by omega
 have e2 : (at_ + h.Zone * 60000 - (at_ + h.Zone * 60000) / 86400000 * 86400000).tdiv 60000 = (at_ / 60000 + h.Zone) % 1440 := by
  rw [Int.tdiv_eq_ediv_of_nonneg (by omega)]; omega
 obtain ⟨b, hb⟩ := opD_is h hg ((at_ / 60000 + h.Zone) / 1440) ((at_ / 60000 + h.Zone) % 1440) (by omega) (by omega)
 simp only [F140_dialplan_isOpen, bnd]
 rw [w64 (n := h.Zone * 60000) (by omega) (by omega), w64 (n := at_ + h.Zone * 60000) (by omega) (by omega), floor_is _ _ (by omega) (by omega) (by omega) (by omega)]
 simp only [Option.bind_some]
 rw [w64 (n := (at_ + h.Zone * 60000) / 86400000 * 86400000) (by omega) (by omega), w64 (n := at_ + h.Zone * 60000 - (at_ + h.Zone * 60000) / 86400000 * 86400000) (by omega) (by omega), e2, w64 (by omega) (by omega), e1]
 show opD h _ _ = _
 unfold op
 rw [hb]; rfl

theorem within_ok {n lo hi : Int} (h1 : lo ≤ n) (h2 : n ≤ hi) : F161_dialplan_within n lo hi = some true := by
 have : F161_dialplan_within n lo hi = some (decide (n ≥ lo) && decide (n ≤ hi)) := rfl
 rw [this]; simp [h1, h2]
theorem time_ok {a b : Int} (h1 : 0 ≤ a) (h2 : a < b) (h3 : b ≤ 1440) : F238_dialplan_isTime a b = some true := by
 have : F238_dialplan_isTime a b = some ((decide (a ≥ 0) && decide (a < b)) && decide (b ≤ 1440)) := rfl
 rw [this]; simp [h1, h2, h3]
theorem key_ok : F69_number_IsKey [104, 97] = some true := by kernel_rfl
theorem times_is (h : T_api_Hours) (hg : HGood h) : F225_dialplan_checkTimes h = some 0 := by
 obtain ⟨_, _, r1, r2, o1, o2, o3⟩ := hg
 have n1 : (decide (((h.Rows.length : Nat) : Int) > 50)) = false := by simp; omega
 have n2 : (decide (((h.Holidays.length : Nat) : Int) > 200)) = false := by simp; omega
 have l0 : loopO (fun s : Int => F225_dialplan_checkTimes_l0 h s) 0 = some (.inl ()) := by
  have := loop_for (N := h.Rows.length) (step := fun s : Int => F225_dialplan_checkTimes_l0 h s) (fun k => (k : Int)) (.inl ()) (fun k hk => by
   obtain ⟨a1, a2, a3, a4, a5⟩ := r2 _ (List.getElem_mem hk)
   have hd : (decide (((k : Nat) : Int) < (h.Rows.length : Int))) = true := by simp; exact hk
   simp only [F225_dialplan_checkTimes_l0]
   rw [hd, idx_at hk]
   simp only [cond_true, Option.bind_some, within_ok a1 a2, Bool.not_true, cond_false, time_ok a3 a4 a5]
   rw [w64 (by omega) (by omega)]; rfl) (by simp [F225_dialplan_checkTimes_l0])
  simpa using this
 have l1 : loopO (fun s : Int => F225_dialplan_checkTimes_l1 h s) 0 = some (.inl ()) := by
  have := loop_for (N := h.Holidays.length) (step := fun s : Int => F225_dialplan_checkTimes_l1 h s) (fun k => (k : Int)) (.inl ()) (fun k hk => by
   obtain ⟨a1, a2, a3⟩ := o2 _ (List.getElem_mem hk)
   have hd : (decide (((k : Nat) : Int) < (h.Holidays.length : Int))) = true := by simp; exact hk
   have ht : (bif ((h.Holidays[k].From != ((0 : Int))) || (h.Holidays[k].To != ((0 : Int)))) then ((F238_dialplan_isTime h.Holidays[k].From h.Holidays[k].To).bind fun y165 => some (!y165)) else (some false)) = some false := by
    rcases a3 with ⟨b1, b2⟩ | ⟨b1, b2, b3⟩
    ·rw [b1, b2]; rfl
    ·rw [time_ok b1 b2 b3]
     cases ((h.Holidays[k].From != ((0 : Int))) || (h.Holidays[k].To != ((0 : Int)))) <;> rfl
   have prev : (bif (decide ((k : Int) > ((0 : Int)))) then ((idx h.Holidays ((IntKind.wrap .i64 ((k : Int) - ((1 : Int)))))).bind fun y205 => some ((decide (h.Holidays[k].Day ≤ y205.Day)))) else (some false)) = some false := by
    by_cases h0 : k = 0
    ·subst h0; simp
    ·have e : IntKind.wrap .i64 ((k : Int) - 1) = ((k - 1 : Nat) : Int) := by rw [w64 (by omega) (by omega)]; omega
     have hpos : (decide ((k : Int) > 0)) = true := by simp; omega
     have hle := List.pairwise_iff_getElem.1 o3 (k - 1) k (by simp; omega) (by simpa using hk) (by omega)
     simp only [List.getElem_map] at hle
     rw [hpos, e, idx_at (by omega : k - 1 < h.Holidays.length)]
     simp only [cond_true, Option.bind_some]
     congr 1; simp; omega
   simp only [F225_dialplan_checkTimes_l1]
   rw [hd, idx_at hk]
   simp only [cond_true, Option.bind_some, within_ok a1 a2, Bool.not_true, cond_false]
   rw [ht]
   simp only [Option.bind_some, cond_false]
   rw [prev]
   simp only [Option.bind_some, cond_false]
   rw [w64 (by omega) (by omega)]; rfl) (by simp [F225_dialplan_checkTimes_l1])
  simpa using this
 simp only [F225_dialplan_checkTimes, n1, n2, cond_false, l0, l1, lret]

end Go.Proofs.YtagbgmkocjfanaaGreatDoor

/-
 Dial plans: plans that are drawn are right.
-/
namespace Go.Proofs.YtagbgmkocjfanaaGreatDoor
open Go Go.Abs
set_option maxRecDepth 100000
set_option maxHeartbeats 1000000

def kHa : List UInt8 := [104, 97]
def kHb : List UInt8 := [104, 98]
theorem hours1_is (s : T_flashmake_Stream) (ky : List UInt8) (l : List T_api_Hours) (n k : Int) (hs : SOk s k) (hk : k ≤ 500) (hl : l.length ≤ 5) (h0 : 0 ≤ n) (hn : n < 2) (hky : idx ([([104, 97] : List UInt8), ([104, 98] : List UInt8)] : List (List UInt8)) n = some ky) :
  ∃ h s', F72_flashmake_Stream_RightHours_l0 l n s = some (.inl (l ++ [h], n + 1, s')) ∧ HGood h ∧ h.Key = ky ∧ SOk s' (k + 20) := by
 obtain ⟨z, e1, z1⟩ := pick_in s [0, 0, 60, -90, 1440] _ hs (by omega) (by simp) (by simp)
 have z2 : -1440 ≤ z ∧ z ≤ 1440 := by simp at z1; omega
 obtain ⟨m, e2, m1, m2⟩ := range_is ⟨s.L, s.at_ + 1⟩ 0 2 _ hs.one (by omega) (by omega) (by omega) (by omega)
 obtain ⟨rows, s2, e3, r1, r2, r3⟩ := rows_is (⟨s.L, s.at_ + 1 + 1⟩, m) m2 ⟨s.L, s.at_ + 1 + 1⟩ _ hs.one.one (by omega) ky z
 obtain ⟨hol, s3, e4, o1, o2, o3, o4⟩ := hols_is s2 _ r3 (by omega) ky z rows
 refine ⟨⟨ky, z, rows, hol⟩, s3, ?_, ⟨z2.1, z2.2, r1, r2, o1, o2, o3⟩, rfl, o4.up (by omega)⟩
 have hlen : ((List.length (([([104, 97] : List UInt8), ([104, 98] : List UInt8)] : List (List UInt8))) : Nat) : Int) = 2 := rfl
 simp only [F72_flashmake_Stream_RightHours_l0, hlen, hn, decide_true, cond_true, hky, Option.bind_some, e1, e2, e3, e4]
 rw [app_of (by simp; omega) (by simp; omega), w64 (by omega) (by omega)]
 rfl
theorem hours2_is (s0 : T_flashmake_Stream) (k : Int) (hs : SOk s0 k) (hk : k ≤ 100) : ∃ s' a b, F72_flashmake_Stream_RightHours s0 = some (s', [a, b]) ∧ HGood a ∧ a.Key = kHa ∧ HGood b ∧ b.Key = kHb ∧ SOk s' (k + 40) := by
 obtain ⟨a, s1, e1, a1, a2, a3⟩ := hours1_is s0 [104, 97] [] 0 k hs (by omega) (by simp) (by omega) (by omega) rfl
 obtain ⟨b, s2, e2, b1, b2, b3⟩ := hours1_is s1 [104, 98] [a] 1 _ a3 (by omega) (by simp) (by omega) (by omega) rfl
 refine ⟨s2, a, b, ?_, a1, a2, b1, b2, b3.up (by omega)⟩
 have : loopO (fun s : List T_api_Hours × Int × T_flashmake_Stream => F72_flashmake_Stream_RightHours_l0 s.1 s.2.1 s.2.2) ([], 0, s0) = some ([a, b], s2) :=
  (loop2 (s' := ([a], 1, s1)) e1).trans ((loop2 (s' := ([a, b], 2, s2)) e2).trans (loop3 (by simp [F72_flashmake_Stream_RightHours_l0])))
 simp only [F72_flashmake_Stream_RightHours, this, Option.bind_some]

theorem keyHa : F69_number_IsKey kHa = some true := by kernel_rfl
theorem keyHb : F69_number_IsKey kHb = some true := by kernel_rfl
theorem checkHours_is {a b : T_api_Hours} (ha : HGood a) (ka : a.Key = kHa) (hb : HGood b) (kb : b.Key = kHb) : F194_dialplan_CheckHours [a, b] = some 0 := by
 have hl : ((List.length [a, b] : Nat) : Int) = 2 := rfl
 have za := within_ok ha.1 ha.2.1
 have zb := within_ok hb.1 hb.2.1
 have e0 : idx [a, b] 0 = some a := rfl
 have e1 : idx [a, b] 1 = some b := rfl
 have s0 : F194_dialplan_CheckHours_l0 [a, b] 0 = some (.inl 1) := by
  simp only [F194_dialplan_CheckHours_l0, hl, e0, Option.bind_some, ka, keyHa, za, times_is a ha]; rfl
 have s1 : F194_dialplan_CheckHours_l0 [a, b] 1 = some (.inl 2) := by
  have e2 : IntKind.wrap .i64 ((1 : Int) - 1) = 0 := by decide
  simp only [F194_dialplan_CheckHours_l0, hl, e1, e2, e0, Option.bind_some, ka, kb, keyHb, zb, times_is b hb]; rfl
 have s2 : F194_dialplan_CheckHours_l0 [a, b] 2 = some (.inr (.inl ())) := by simp [F194_dialplan_CheckHours_l0]
 have : loopO (fun s : Int => F194_dialplan_CheckHours_l0 [a, b] s) 0 = some (.inl ()) := (loop2 s0).trans ((loop2 s1).trans (loop3 s2))
 simp only [F194_dialplan_CheckHours, hl, this, lret]; rfl

/-- The keys of hours that a rule may name. -/
def HK (k : List UInt8) : Prop := k = [] ∨ k = kHa ∨ k = kHb
theorem idxHours_is (l : List T_api_Hours) (g : T_api_Hours → Option Bool) (p : T_api_Hours → Bool) (hg : ∀ a ∈ l, g a = some (p a)) (hl : l.length ≤ 4611686018427387904) : F138_slices_IndexFunc_api_Hours_api_Hours l g = some (idxI p l) := idxF_loop l g p hg hl
theorem containsHours_is (l : List T_api_Hours) (g : T_api_Hours → Option Bool) (p : T_api_Hours → Bool) (hg : ∀ a ∈ l, g a = some (p a)) (hl : l.length ≤ 4611686018427387904) : F200_slices_ContainsFunc_api_Hours_api_Hours l g = some (l.any p) := by
 simp only [F200_slices_ContainsFunc_api_Hours_api_Hours, idxHours_is l g p hg hl, Option.bind_some, bnd, idxI_any]
theorem idxCtx_is (l : List T_api_Context) (g : T_api_Context → Option Bool) (p : T_api_Context → Bool) (hg : ∀ a ∈ l, g a = some (p a)) (hl : l.length ≤ 4611686018427387904) : F36_slices_IndexFunc_api_Context_api_Context l g = some (idxI p l) := idxF_loop l g p hg hl
theorem idxRule_is (l : List T_api_Rule) (g : T_api_Rule → Option Bool) (p : T_api_Rule → Bool) (hg : ∀ a ∈ l, g a = some (p a)) (hl : l.length ≤ 4611686018427387904) : F136_slices_IndexFunc_api_Rule_api_Rule l g = some (idxI p l) := idxF_loop l g p hg hl
theorem containsRule_is (l : List T_api_Rule) (g : T_api_Rule → Option Bool) (p : T_api_Rule → Bool) (hg : ∀ a ∈ l, g a = some (p a)) (hl : l.length ≤ 4611686018427387904) : F75_slices_ContainsFunc_api_Rule_api_Rule l g = some (l.any p) := by
 simp only [F75_slices_ContainsFunc_api_Rule_api_Rule, idxRule_is l g p hg hl, Option.bind_some, bnd, idxI_any]
theorem contextAt_is (p : T_api_Plan) (k : List UInt8) (hl : p.Contexts.length ≤ 1000) : F148_dialplan_contextAt p k = some (idxI (fun c => c.Key == k) p.Contexts) := by
 simp only [F148_dialplan_contextAt, idxCtx_is p.Contexts (fun a0 => F197_dialplan_contextAt_1 a0 k) (fun c => c.Key == k) (fun _ _ => rfl) (by omega), Option.bind_some]

/-- Are hours that a rule names open? -/
noncomputable def cnt (a b : T_api_Hours) (k : List UInt8) (at_ : Int) : Bool := if k = [] then true else if k = kHa then op a (at_ / 60000) else op b (at_ / 60000)
theorem counts_is (p : T_api_Plan) {a b : T_api_Hours} (hp : p.Hours = [a, b]) (ha : HGood a) (ka : a.Key = kHa) (hb : HGood b) (kb : b.Key = kHb) {k : List UInt8} (hk : HK k) {at_ : Int} (h1 : 0 ≤ at_) (h2 : at_ ≤ 1000000000) :
  F80_dialplan_counts p k at_ = some (cnt a b k at_) := by
 have hi := idxHours_is [a, b] (fun a0 => F139_dialplan_counts_1 a0 k) (fun c => c.Key == k) (fun _ _ => rfl) (by simp)
 rcases hk with rfl | rfl | rfl
 ·rfl
 ·have e : idxI (fun c : T_api_Hours => c.Key == kHa) [a, b] = 0 := by rw [idxI_cons]; simp [ka]
  have n : (kHa == ([] : List UInt8)) = false := rfl
  simp only [F80_dialplan_counts, n, cond_false, hp, hi, e, Option.bind_some, show idx [a, b] 0 = some a from rfl, open_is a ha at_ h1 h2, cnt]
  rfl
 ·have e : idxI (fun c : T_api_Hours => c.Key == kHb) [a, b] = 1 := by rw [idxI_cons, idxI_cons]; simp [ka, kb, kHa, kHb]
  have n : (kHb == ([] : List UInt8)) = false := rfl
  simp only [F80_dialplan_counts, n, cond_false, hp, hi, e, Option.bind_some, show idx [a, b] 1 = some b from rfl, open_is b hb at_ h1 h2, cnt]
  rfl
theorem hasHours_is (p : T_api_Plan) {a b : T_api_Hours} (hp : p.Hours = [a, b]) (ka : a.Key = kHa) (kb : b.Key = kHb) {k : List UInt8} (hk : HK k) : F162_dialplan_hasHours p k = some true := by
 have hi := containsHours_is [a, b] (fun a0 => F201_dialplan_hasHours_1 a0 k) (fun c => c.Key == k) (fun _ _ => rfl) (by simp)
 rcases hk with rfl | rfl | rfl
 ·rfl
 ·simp only [F162_dialplan_hasHours, hp, hi, Option.bind_some]
  simp [ka, kHa]
 ·simp only [F162_dialplan_hasHours, hp, hi, Option.bind_some]
  simp [ka, kb, kHa, kHb]

/-- A rule that is drawn. -/
def RGood (r : T_api_Rule) : Prop := (∃ es t, PGood r.Pattern es t) ∧ (r.Strip = 0 ∨ r.Strip = 1 ∨ r.Strip = 2) ∧ (r.Prefix = [] ∨ r.Prefix = [48] ∨ r.Prefix = [42, 49]) ∧ 1 ≤ r.To ∧ r.To ≤ 6 ∧ HK r.Hours ∧
 (if r.To = 3 ∨ r.To = 4 ∨ r.To = 5 then r.Name = [109, 97, 105, 110] ∨ r.Name = [104, 101, 108, 112] else r.Name = [])
theorem rule_is (s0 : T_flashmake_Stream) (k : Int) (hs : SOk s0 k) (hk : k ≤ 900) : ∃ s' r, F74_flashmake_Stream_RightRule s0 = some (s', r) ∧ RGood r ∧ SOk s' (k + 11) := by
 obtain ⟨s1, p, es, t, e1, p1, p2⟩ := pattern_is s0 k hs (by omega)
 obtain ⟨st, e2, st1⟩ := pick_in s1 [0, 0, 1, 2] _ p2 (by omega) (by simp) (by simp)
 obtain ⟨px, e3, px1⟩ := some_in ⟨s1.L, s1.at_ + 1⟩ [[], [], [48], [42, 49]] _ p2.one (by omega) (by simp) (by simp)
 obtain ⟨to, e4, to1, to2⟩ := range_is ⟨s1.L, s1.at_ + 1 + 1⟩ 1 6 _ p2.one.one (by omega) (by omega) (by omega) (by omega)
 obtain ⟨hr, e5, hr1⟩ := some_in ⟨s1.L, s1.at_ + 1 + 1 + 1⟩ [[], [], [104, 97], [104, 98]] _ p2.one.one.one (by omega) (by simp) (by simp)
 have hh : HK hr := by
  simp only [List.mem_cons, List.not_mem_nil, or_false] at hr1
  rcases hr1 with h | h | h | h
  ·exact .inl h
  ·exact .inl h
  ·exact .inr (.inl h)
  ·exact .inr (.inr h)
 have hst : st = 0 ∨ st = 1 ∨ st = 2 := by simp at st1; omega
 have hpx : px = [] ∨ px = [48] ∨ px = [42, 49] := by
  simp only [List.mem_cons, List.not_mem_nil, or_false] at px1
  rcases px1 with h | h | h | h
  ·exact .inl h
  ·exact .inl h
  ·exact .inr (.inl h)
  ·exact .inr (.inr h)
 by_cases ht : to = 3 ∨ to = 4 ∨ to = 5
 ·obtain ⟨nm, e6, nm1⟩ := some_in ⟨s1.L, s1.at_ + 1 + 1 + 1 + 1⟩ [[109, 97, 105, 110], [104, 101, 108, 112]] _ p2.one.one.one.one (by omega) (by simp) (by simp)
  refine ⟨⟨s1.L, s1.at_ + 1 + 1 + 1 + 1 + 1⟩, ⟨p, st, px, to, nm, hr⟩, ?_, ⟨⟨es, t, p1⟩, hst, hpx, to1, to2, hh, ?_⟩, p2.one.one.one.one.one.up (by omega)⟩
  ·have hc : (decide (to ≥ 3) && decide (to ≤ 5)) = true := by simp; omega
   simp only [F74_flashmake_Stream_RightRule, e1, e2, e3, e4, e5, e6, Option.bind_some, hc, cond_true]
  ·simp only [ht, if_true]
   simpa using nm1
 ·refine ⟨⟨s1.L, s1.at_ + 1 + 1 + 1 + 1⟩, ⟨p, st, px, to, [], hr⟩, ?_, ⟨⟨es, t, p1⟩, hst, hpx, to1, to2, hh, ?_⟩, p2.one.one.one.one.up (by omega)⟩
  ·have hc : (decide (to ≥ 3) && decide (to ≤ 5)) = false := by simp; omega
   simp only [F74_flashmake_Stream_RightRule, e1, e2, e3, e4, e5, Option.bind_some, hc, cond_false]
  ·simp only [ht, if_false]

def same (r o : T_api_Rule) : Bool := o.Pattern == r.Pattern && o.Hours == r.Hours
/-- The rules of a context. -/
def LGood (l : List T_api_Rule) (most : Int) : Prop := (l.length : Int) ≤ most ∧ (∀ r ∈ l, RGood r) ∧ l.Pairwise fun x r => same r x = false
theorem ctx_is (s0 : T_flashmake_Stream) (m most : Int) (hm : m ≤ most) (hm0 : 0 ≤ m) (hm4 : most ≤ 4) (key : List UInt8) (k : Int) (hs : SOk s0 k) (hk : k ≤ 600) (y : T_flashmake_Stream × Int) (hy : y.2 = m) :
  ∃ R s', loopO (fun s : Int × T_api_Context × T_flashmake_Stream => F25_flashmake_Stream_RightPlan_l1 y s.1 s.2.1 s.2.2) (0, ⟨key, [], []⟩, s0) = some (⟨key, R, []⟩, s') ∧ LGood R most ∧ SOk s' (k + 50) := by
 obtain ⟨e, h1, ⟨R, h2, h3⟩, h4⟩ := loopO_ind (step := fun s : Int × T_api_Context × T_flashmake_Stream => F25_flashmake_Stream_RightPlan_l1 y s.1 s.2.1 s.2.2)
  (fun q => 0 ≤ q.1 ∧ q.1 ≤ m ∧ (∃ R, q.2.1 = ⟨key, R, []⟩ ∧ (R.length : Int) ≤ q.1 ∧ LGood R most) ∧ SOk q.2.2 (k + 12 * q.1))
  (fun e => (∃ R, e.1 = ⟨key, R, []⟩ ∧ LGood R most) ∧ SOk e.2 (k + 50)) (fun q => (m - q.1).toNat) (fun q hq => by
   obtain ⟨n, c, s⟩ := q
   obtain ⟨q0, q1, ⟨R, rfl, q2, q3⟩, q4⟩ := hq
   simp only [] at q0 q1 q2 q4
   simp only [F25_flashmake_Stream_RightPlan_l1, hy]
   by_cases hlt : n < m
   ·obtain ⟨s1, r, e1, r1, r2⟩ := rule_is s _ q4 (by omega)
    have hc := containsRule_is R (fun a0 => F76_flashmake_Stream_RightPlan_1 a0 r) (same r) (fun _ _ => rfl) (by omega)
    simp only [hlt, decide_true, cond_true, e1, Option.bind_some, hc]
    cases ha : R.any (same r) with
    | true =>
     simp only [Bool.not_true, cond_false]
     rw [w64 (by omega) (by omega)]
     exact .inr ⟨_, rfl, ⟨by (try simp only []); omega, by (try simp only []); omega, ⟨R, rfl, by (try simp only []); omega, q3⟩, r2.up (by (try simp only []); omega)⟩, by (try simp only []); omega⟩
    | false =>
     simp only [Bool.not_false, cond_true]
     rw [w64 (by omega) (by omega), app_of (by simp; omega) (by simp; omega)]
     simp only [Option.bind_some]
     refine .inr ⟨_, rfl, ⟨by (try simp only []); omega, by (try simp only []); omega, ⟨R ++ [r], rfl, by simp; omega, by simp; omega, fun x hx => ?_, ?_⟩, r2.up (by (try simp only []); omega)⟩, by (try simp only []); omega⟩
     ·rcases List.mem_append.1 hx with hx | hx
      ·exact q3.2.1 x hx
      ·simp at hx; subst hx; exact r1
     ·rw [List.pairwise_append]
      refine ⟨q3.2.2, by simp, fun x hx z hz => ?_⟩
      simp at hz; subst hz
      have := List.any_eq_false.1 ha x hx
      simpa using this
   ·simp only [hlt, decide_false, cond_false]
    exact .inl ⟨_, rfl, ⟨R, rfl, q3⟩, q4.up (by (try simp only []); omega)⟩) (0, ⟨key, [], []⟩, s0) ⟨by simp, by simpa using hm0, ⟨[], rfl, by simp, by simp; omega, by simp, List.Pairwise.nil⟩, hs.up (by (try simp only []); omega)⟩
 obtain ⟨c, s'⟩ := e
 simp only [] at h2 h4
 subst h2
 exact ⟨R, s', h1, h3, h4⟩
def kca : List UInt8 := [99, 97]
def kcb : List UInt8 := [99, 98]
def kcc : List UInt8 := [99, 99]
def keys3 : List (List UInt8) := [[99, 97], [99, 98], [99, 99]]
theorem plan1_is (s : T_flashmake_Stream) (most : Int) (h0 : 0 ≤ most) (h4 : most ≤ 4) (C : List T_api_Context) (hC : C.length ≤ 5) (H : List T_api_Hours) (n : Int) (n0 : 0 ≤ n) (n3 : n < 3) (key : List UInt8) (hkey : idx keys3 n = some key) (k : Int) (hs : SOk s k) (hk : k ≤ 500) :
  ∃ R s', F25_flashmake_Stream_RightPlan_l0 most n ⟨C, H⟩ s = some (.inl (n + 1, ⟨C ++ [⟨key, R, []⟩], H⟩, s')) ∧ LGood R most ∧ SOk s' (k + 60) := by
 obtain ⟨m, e1, m1, m2⟩ := range_is s 0 most _ hs (by omega) h0 (by omega) (by omega)
 obtain ⟨R, s', e2, r1, r2⟩ := ctx_is ⟨s.L, s.at_ + 1⟩ m most m2 m1 h4 key _ hs.one (by omega) (⟨s.L, s.at_ + 1⟩, m) rfl
 refine ⟨R, s', ?_, r1, r2.up (by omega)⟩
 have hl : ((List.length (([([99, 97] : List UInt8), ([99, 98] : List UInt8), ([99, 99] : List UInt8)] : List (List UInt8))) : Nat) : Int) = 3 := rfl
 have hkey : idx ([([99, 97] : List UInt8), ([99, 98] : List UInt8), ([99, 99] : List UInt8)] : List (List UInt8)) n = some key := hkey
 simp only [F25_flashmake_Stream_RightPlan_l0, hl, n3, decide_true, cond_true, hkey, Option.bind_some, e1, e2]
 rw [app_of (by simp; omega) (by simp; omega), w64 (by omega) (by omega)]
 rfl
/-- What contexts include. -/
def inc0 : List (List (List UInt8)) := [[], [[99, 98]], [[99, 99], [99, 98]], [[99, 98], [99, 99]]]
def inc1 : List (List (List UInt8)) := [[], [[99, 99]]]
/-- A plan that is drawn. -/
structure PlanOk (p : T_api_Plan) (a b : T_api_Hours) (R0 R1 R2 : List T_api_Rule) (I0 I1 : List (List UInt8)) (most : Int) : Prop where
 p : p = ⟨[⟨kca, R0, I0⟩, ⟨kcb, R1, I1⟩, ⟨kcc, R2, []⟩], [a, b]⟩
 r0 : LGood R0 most
 r1 : LGood R1 most
 r2 : LGood R2 most
 i0 : I0 ∈ inc0
 i1 : I1 ∈ inc1
 ha : HGood a
 ka : a.Key = kHa
 hb : HGood b
 kb : b.Key = kHb
 most : most ≤ 4
theorem plan_is (s0 : T_flashmake_Stream) (most : Int) (h0 : 0 ≤ most) (h4 : most ≤ 4) (k : Int) (hs : SOk s0 k) (hk : k ≤ 100) :
  ∃ s' p a b R0 R1 R2 I0 I1, F25_flashmake_Stream_RightPlan s0 most = some (s', p) ∧ PlanOk p a b R0 R1 R2 I0 I1 most ∧ SOk s' (k + 230) := by
 obtain ⟨s1, a, b, e1, a1, a2, b1, b2, a3⟩ := hours2_is s0 k hs (by omega)
 obtain ⟨R0, s2, e2, r0, x0⟩ := plan1_is s1 most h0 h4 [] (by simp) [a, b] 0 (by omega) (by omega) kca rfl _ a3 (by omega)
 obtain ⟨R1, s3, e3, r1, x1⟩ := plan1_is s2 most h0 h4 [⟨kca, R0, []⟩] (by simp) [a, b] 1 (by omega) (by omega) kcb rfl _ x0 (by omega)
 obtain ⟨R2, s4, e4, r2, x2⟩ := plan1_is s3 most h0 h4 [⟨kca, R0, []⟩, ⟨kcb, R1, []⟩] (by simp) [a, b] 2 (by omega) (by omega) kcc rfl _ x1 (by omega)
 have hl : loopO (fun s : Int × T_api_Plan × T_flashmake_Stream => F25_flashmake_Stream_RightPlan_l0 most s.1 s.2.1 s.2.2) (0, ⟨[], [a, b]⟩, s1) = some (⟨[⟨kca, R0, []⟩, ⟨kcb, R1, []⟩, ⟨kcc, R2, []⟩], [a, b]⟩, s4) :=
  (loop2 (s' := (1, ⟨[⟨kca, R0, []⟩], [a, b]⟩, s2)) e2).trans ((loop2 (s' := (2, ⟨[⟨kca, R0, []⟩, ⟨kcb, R1, []⟩], [a, b]⟩, s3)) e3).trans ((loop2 (s' := (3, ⟨[⟨kca, R0, []⟩, ⟨kcb, R1, []⟩, ⟨kcc, R2, []⟩], [a, b]⟩, s4)) e4).trans (loop3 (by simp [F25_flashmake_Stream_RightPlan_l0]))))
 obtain ⟨n, e5, n1, n2⟩ := next_is s4 4 _ x2 (by omega) (by omega) (by omega)
 obtain ⟨m, e6, m1, m2⟩ := next_is ⟨s4.L, s4.at_ + 1⟩ 2 _ x2.one (by omega) (by omega) (by omega)
 obtain ⟨I0, f0, g0⟩ := idx_of (l := inc0) n1 (by simpa [inc0] using n2)
 obtain ⟨I1, f1, g1⟩ := idx_of (l := inc1) m1 (by simpa [inc1] using m2)
 unfold inc0 at f0
 unfold inc1 at f1
 refine ⟨⟨s4.L, s4.at_ + 1 + 1⟩, ⟨[⟨kca, R0, I0⟩, ⟨kcb, R1, I1⟩, ⟨kcc, R2, []⟩], [a, b]⟩, a, b, R0, R1, R2, I0, I1, ?_, ⟨rfl, r0, r1, r2, g0, g1, a1, a2, b1, b2, h4⟩, x2.one.one.up (by omega)⟩
 simp only [F25_flashmake_Stream_RightPlan, e1, Option.bind_some, hl, e5, f0, e6, f1, bnd]
 rfl
end Go.Proofs.YtagbgmkocjfanaaGreatDoor

/-
 Dial plans: plans that are drawn are checked, and in which order contexts are asked.
-/
namespace Go.Proofs.YtagbgmkocjfanaaGreatDoor
open Go Go.Abs
set_option maxRecDepth 100000
set_option maxHeartbeats 1000000

theorem idxStr_is (l : List (List UInt8)) (x : List UInt8) (hl : l.length ≤ 4611686018427387904) : F102_slices_Index_string_string l x = some (idxI (x == ·) l) := idxE_loop l x hl
theorem contStr_is (l : List (List UInt8)) (x : List UInt8) (hl : l.length ≤ 4611686018427387904) : F47_slices_Contains_string_string l x = some (l.any (x == ·)) := by
 simp only [F47_slices_Contains_string_string, idxStr_is l x hl, Option.bind_some, bnd, idxI_any]
theorem idxInt_is (l : List Int) (x : Int) (hl : l.length ≤ 4611686018427387904) : F59_slices_Index_int_int l x = some (idxI (x == ·) l) := idxE_loop l x hl
theorem contInt_is (l : List Int) (x : Int) (hl : l.length ≤ 4611686018427387904) : F18_slices_Contains_int_int l x = some (l.any (x == ·)) := by
 simp only [F18_slices_Contains_int_int, idxInt_is l x hl, Option.bind_some, bnd, idxI_any]
theorem prefix_ok {px : List UInt8} (h : px = [] ∨ px = [48] ∨ px = [42, 49]) : F93_dialplan_isDialled px 0 = some true := by
 rcases h with rfl | rfl | rfl <;> kernel_rfl
theorem name_ok {nm : List UInt8} (h : nm = [109, 97, 105, 110] ∨ nm = [104, 101, 108, 112]) : F69_number_IsKey nm = some true := by
 rcases h with rfl | rfl <;> kernel_rfl
theorem within_k {n lo hi : Int} (h1 : lo ≤ n) (h2 : n ≤ hi) : F161_dialplan_within n lo hi = some true := within_ok h1 h2
section
variable {p : T_api_Plan} {a b : T_api_Hours}
/-- One rule is right. -/
theorem checkRule_is (hp : p.Hours = [a, b]) (ka : a.Key = kHa) (kb : b.Key = kHb) (key : List UInt8) (I : List (List UInt8)) {R : List T_api_Rule} (hR : LGood R 4) {i : Nat} (hi : i < R.length) :
  F226_dialplan_checkRule p ⟨key, R, I⟩ (i : Int) = some 0 := by
 obtain ⟨l1, l2, l3⟩ := hR
 obtain ⟨⟨es, t, h1⟩, h2, h3, h4, h5, h6, h7⟩ := l2 _ (List.getElem_mem hi)
 have e1 : F239_dialplan_CheckPattern R[i].Pattern = some 0 := by simp only [F239_dialplan_CheckPattern, read_is h1, Option.bind_some]
 have e2 := within_k (n := R[i].Strip) (lo := 0) (hi := 30) (by omega) (by omega)
 have e3 := prefix_ok h3
 have e4 := within_k h4 h5
 have e5 : F240_dialplan_named R[i].To = some ((R[i].To == 3 || R[i].To == 4) || R[i].To == 5) := rfl
 have e6 := hasHours_is p hp ka kb h6
 have e7 : sub R 0 (i : Int) = some (R.take i) := by
  unfold sub; rw [if_pos ⟨by omega, by omega, by omega⟩]; simp
 have e8 : loopO (fun s : Int => F226_dialplan_checkRule_l0 R[i] (R.take i) s) 0 = some (.inl ()) := by
  have hlen : (R.take i).length = i := by simp; omega
  have := loop_for (N := (R.take i).length) (step := fun s : Int => F226_dialplan_checkRule_l0 R[i] (R.take i) s) (fun k => (k : Int)) (.inl ()) (fun k hk => by
   have hd : (decide (((k : Nat) : Int) < (((R.take i).length : Nat) : Int))) = true := by simpa using hk
   have hk2 : k < i := by omega
   have hne := List.pairwise_iff_getElem.1 l3 k i (by omega) hi hk2
   unfold same at hne
   have hg : (R.take i)[k] = R[k] := by simp
   simp only [F226_dialplan_checkRule_l0]
   rw [hd, idx_at hk, hg]
   have hne2 : (R[k].Pattern == R[i].Pattern && R[k].Hours == R[i].Hours) = false := by
    rw [← hne]
   simp only [cond_true, Option.bind_some, hne2, cond_false]
   rw [w64 (by omega) (by omega)]; rfl) (by simp [F226_dialplan_checkRule_l0])
  simpa using this
 simp only [F226_dialplan_checkRule, idx_at hi, Option.bind_some, e1, bne_self_eq_false, cond_false, e2, Bool.not_true, e3, e4, e5]
 by_cases ht : R[i].To = 3 ∨ R[i].To = 4 ∨ R[i].To = 5
 ·have hb : ((R[i].To == 3 || R[i].To == 4) || R[i].To == 5) = true := by simp; omega
  simp only [ht, if_true] at h7
  simp only [hb, cond_true, name_ok h7, Option.bind_some, Bool.not_true, cond_false, bnd, Bool.false_and, e6, e7, e8, lret]
 ·have hb : ((R[i].To == 3 || R[i].To == 4) || R[i].To == 5) = false := by simp; omega
  simp only [ht, if_false] at h7
  simp only [hb, cond_false, Option.bind_some, bnd, Bool.not_false, h7, beq_self_eq_true, Bool.not_true, Bool.and_false, e6, e7, e8, lret]
theorem rules_ok (hp : p.Hours = [a, b]) (ka : a.Key = kHa) (kb : b.Key = kHb) (key : List UInt8) (I : List (List UInt8)) {R : List T_api_Rule} (hR : LGood R 4) :
  loopO (fun s : Int => F195_dialplan_checkContext_l0 p ⟨key, R, I⟩ s) 0 = some (.inl ()) := by
 have hl := hR.1
 have := loop_for (N := R.length) (step := fun s : Int => F195_dialplan_checkContext_l0 p ⟨key, R, I⟩ s) (fun k => (k : Int)) (.inl ()) (fun k hk => by
  have hd : (decide (((k : Nat) : Int) < ((R.length : Nat) : Int))) = true := by simpa using hk
  simp only [F195_dialplan_checkContext_l0]
  rw [hd]
  simp only [cond_true, checkRule_is hp ka kb key I hR hk, Option.bind_some, bne_self_eq_false, cond_false]
  rw [w64 (by omega) (by omega)]; rfl) (by simp [F195_dialplan_checkContext_l0])
 simpa using this
theorem incs_ok (key : List UInt8) (R : List T_api_Rule) {I : List (List UInt8)} (hI : I ∈ inc0 ∨ I ∈ inc1) : loopO (fun s : Int => F195_dialplan_checkContext_l1 ⟨key, R, I⟩ s) 0 = some (.inl ()) := by
 have hn : I.length ≤ 2 ∧ I.Pairwise fun x r => (r == x) = false := by
  simp only [inc0, inc1, List.mem_cons, List.not_mem_nil, or_false] at hI
  rcases hI with (rfl | rfl | rfl | rfl) | (rfl | rfl) <;> simp
 obtain ⟨n1, n2⟩ := hn
 have := loop_for (N := I.length) (step := fun s : Int => F195_dialplan_checkContext_l1 ⟨key, R, I⟩ s) (fun k => (k : Int)) (.inl ()) (fun k hk => by
  have hd : (decide (((k : Nat) : Int) < ((I.length : Nat) : Int))) = true := by simpa using hk
  have e7 : sub I 0 (k : Int) = some (I.take k) := by
   unfold sub; rw [if_pos ⟨by omega, by omega, by omega⟩]; simp
  have hc : (I.take k).any (I[k] == ·) = false := by
   rw [List.any_eq_false]
   intro x hx
   obtain ⟨j, hj, rfl⟩ := List.mem_iff_getElem.1 hx
   have hj2 : j < k := by simp at hj; omega
   have := List.pairwise_iff_getElem.1 n2 j k (by omega) hk hj2
   simpa using this
  simp only [F195_dialplan_checkContext_l1]
  rw [hd, idx_at hk]
  simp only [cond_true, Option.bind_some, e7]
  rw [contStr_is _ _ (by simp; omega), hc]
  simp only [Option.bind_some, cond_false]
  rw [w64 (by omega) (by omega)]; rfl) (by simp [F195_dialplan_checkContext_l1])
 simpa using this
end
/- Twins that the kernel can run. -/
section
variable {α σ S E : Type}
theorem foldE_le {f g : Nat → α → S → Option (S ⊕ E)} {fin : S → E} (h : ∀ i a s r, f i a s = some r → g i a s = some r) : ∀ (l : List α) (i : Nat) (s : S) (e : E), foldE f fin i l s = some e → foldE g fin i l s = some e
 | [], _, _, _, he => he
 | a :: l, i, s, e, he => by
  simp only [foldE] at he ⊢
  cases hf : f i a s with
  | none => rw [hf] at he; simp at he
  | some r =>
   rw [hf] at he
   rw [h i a s r hf]
   cases r with
   | inl s' => exact foldE_le h l (i + 1) s' e he
   | inr x => exact he
end
def gd (b : Bool) : Option Unit := if b then some () else none
theorem gd_bind {α : Type} {b : Bool} {k : Option α} {r : α} (h : ((gd b).bind fun _ => k) = some r) : b = true ∧ k = some r := by
 unfold gd at h
 cases b
 ·simp at h
 ·exact ⟨rfl, by simpa using h⟩
def atC (p : T_api_Plan) (k : List UInt8) : Int := idxI (fun c => c.Key == k) p.Contexts
def rFold (rc : Int → List Int → T_api_Plan → Option (List Int × Bool)) (p : T_api_Plan) : Nat → List UInt8 → List Int → Option (List Int ⊕ (List Int ⊕ (List Int × Bool))) := fun _ a st => (rc (atC p a) st p).bind fun z => bif z.2 then some (.inr (.inr (z.1, true))) else some (.inl z.1)
theorem ring_fold (rc : Int → List Int → T_api_Plan → Option (List Int × Bool)) (p : T_api_Plan) (c : T_api_Context) (st : List Int) (h1 : p.Contexts.length ≤ 1000) (h2 : c.Includes.length ≤ 1000) :
  loopO (fun s : Int × List Int => F196_dialplan_CheckPlan_1_l0 rc p c s.1 s.2) (0, st) = foldE (rFold rc p) (fun st => .inl st) 0 c.Includes st := by
 refine loop_list c.Includes (fun i st => ((i : Int), st)) _ _ (fun i a s hi => ?_) (fun s => ?_) st
 ·have hlt := (List.getElem?_eq_some_iff.1 hi).1
  have hd : (decide (((i : Nat) : Int) < (c.Includes.length : Int))) = true := by simpa using hlt
  simp only [F196_dialplan_CheckPlan_1_l0, hd, cond_true, idx_nat, hi, Option.bind_some, contextAt_is p a h1, rFold, atC]
  cases rc (idxI (fun c => c.Key == a) p.Contexts) s p with
  | none => rfl
  | some z =>
   simp only [Option.bind_some]
   cases z.2
   ·simp only [cond_false]; rw [w64 (by omega) (by omega)]; rfl
   ·rfl
 ·simp [F196_dialplan_CheckPlan_1_l0]
def C196 : Nat → Int → List Int → T_api_Plan → Option (List Int × Bool)
 | 0, _, _, _ => none
 | n + 1, x0, x1, x2 => (idx x1 x0).bind fun y5 => bif (decide (y5 > ((0 : Int)))) then some (x1, y5 == 1) else (idx x2.Contexts x0).bind fun c => (gd (decide (x2.Contexts.length ≤ 1000) && decide (c.Includes.length ≤ 1000))).bind fun _ =>
      (foldE (rFold (C196 n) x2) (fun st => (.inl st : List Int ⊕ (List Int × Bool))) 0 c.Includes (x1.set x0.toNat 1)).bind fun r => match r with
        | .inl st => (idx st x0).bind fun _ => some (st.set x0.toNat 2, false)
        | .inr r => some r
theorem c196_le : ∀ (n : Nat) (x0 : Int) (x1 : List Int) (x2 : T_api_Plan) (r : List Int × Bool), C196 n x0 x1 x2 = some r → F196_dialplan_CheckPlan_1 n x0 x1 x2 = some r
 | 0, _, _, _, _, h => by simp [C196] at h
 | n + 1, x0, x1, x2, r, h => by
  show F196_dialplan_CheckPlan_1_b (F196_dialplan_CheckPlan_1 n) x0 x1 x2 = some r
  unfold C196 at h
  unfold F196_dialplan_CheckPlan_1_b
  cases h1 : idx x1 x0 with
  | none => rw [h1] at h; simp at h
  | some y =>
   rw [h1] at h
   simp only [Option.bind_some, bnd] at h ⊢
   cases hy : decide (y > 0) with
   | true => rw [hy] at h; exact h
   | false =>
    rw [hy] at h
    simp only [cond_false] at h ⊢
    cases h2 : idx x2.Contexts x0 with
    | none => rw [h2] at h; simp at h
    | some c =>
     rw [h2] at h
     simp only [Option.bind_some] at h ⊢
     obtain ⟨g1, h⟩ := gd_bind h
     simp only [Bool.and_eq_true, decide_eq_true_eq] at g1
     rw [ring_fold _ _ _ _ g1.1 g1.2]
     cases h3 : foldE (rFold (C196 n) x2) (fun st => (.inl st : List Int ⊕ (List Int × Bool))) 0 c.Includes (x1.set x0.toNat 1) with
     | none => rw [h3] at h; simp at h
     | some q =>
      rw [foldE_le (fun i a s r hr => ?_) _ _ _ _ h3]
      ·rw [h3] at h
       cases q <;> exact h
      ·unfold rFold at hr ⊢
       cases h4 : C196 n (atC x2 a) s x2 with
       | none => rw [h4] at hr; simp at hr
       | some z => rw [h4] at hr; rw [c196_le n _ _ _ _ h4]; exact hr
def oFold (rc : T_api_Plan → Int → List Int → Option (List Int)) (p : T_api_Plan) : Nat → List UInt8 → List Int → Option (List Int ⊕ List Int) := fun _ a o => (rc p (atC p a) o).bind fun z => some (.inl z)
theorem order_fold (rc : T_api_Plan → Int → List Int → Option (List Int)) (p : T_api_Plan) (c : T_api_Context) (o : List Int) (h1 : p.Contexts.length ≤ 1000) (h2 : c.Includes.length ≤ 1000) :
  loopO (fun s : List Int × Int => F149_dialplan_order_l0 rc p c s.1 s.2) (o, 0) = foldE (oFold rc p) id 0 c.Includes o := by
 refine loop_list c.Includes (fun i o => (o, (i : Int))) _ _ (fun i a s hi => ?_) (fun s => ?_) o
 ·have hlt := (List.getElem?_eq_some_iff.1 hi).1
  have hd : (decide (((i : Nat) : Int) < (c.Includes.length : Int))) = true := by simpa using hlt
  simp only [F149_dialplan_order_l0, hd, cond_true, idx_nat, hi, Option.bind_some, contextAt_is p a h1, oFold, atC]
  cases rc p (idxI (fun c => c.Key == a) p.Contexts) s with
  | none => rfl
  | some z =>
   simp only [Option.bind_some]
   rw [w64 (by omega) (by omega)]; rfl
 ·simp [F149_dialplan_order_l0]
def C149 : Nat → T_api_Plan → Int → List Int → Option (List Int)
 | 0, _, _, _ => none
 | n + 1, p, i, o => (gd (decide (o.length ≤ 1000) && decide (p.Contexts.length ≤ 1000))).bind fun _ => bif o.any (i == ·) then some o else (idx p.Contexts i).bind fun c => (gd (decide (c.Includes.length ≤ 1000))).bind fun _ => foldE (oFold (C149 n) p) id 0 c.Includes (o ++ [i])
theorem c149_le : ∀ (n : Nat) (p : T_api_Plan) (i : Int) (o : List Int) (r : List Int), C149 n p i o = some r → F149_dialplan_order n p i o = some r
 | 0, _, _, _, _, h => by simp [C149] at h
 | n + 1, p, i, o, r, h => by
  show F149_dialplan_order_b (F149_dialplan_order n) p i o = some r
  unfold C149 at h
  unfold F149_dialplan_order_b
  obtain ⟨g1, h⟩ := gd_bind h
  simp only [Bool.and_eq_true, decide_eq_true_eq] at g1
  rw [contInt_is _ _ (by omega)]
  simp only [Option.bind_some]
  cases ha : o.any (i == ·) with
  | true => rw [ha] at h; exact h
  | false =>
   rw [ha] at h
   simp only [cond_false] at h ⊢
   rw [app_of (by simp; omega) (by simp; omega)]
   simp only [Option.bind_some]
   cases h2 : idx p.Contexts i with
   | none => rw [h2] at h; simp at h
   | some c =>
    rw [h2] at h
    simp only [Option.bind_some] at h ⊢
    obtain ⟨g2, h⟩ := gd_bind h
    simp only [decide_eq_true_eq] at g2
    rw [order_fold _ _ _ _ g1.2 g2]
    rw [foldE_le (fun i a s r hr => ?_) _ _ _ _ h]
    ·rfl
    ·unfold oFold at hr ⊢
     cases h4 : C149 n p (atC p a) s with
     | none => rw [h4] at hr; simp at hr
     | some z => rw [h4] at hr; rw [c149_le n _ _ _ _ h4]; exact hr
theorem ordern_fold (p : T_api_Plan) (c : T_api_Context) (o : List Int) (h1 : p.Contexts.length ≤ 1000) (h2 : c.Includes.length ≤ 1000) :
  loopO (fun s : List Int × Int => F149_dialplan_ordern_l0 p c s.1 s.2) (o, 0) = foldE (oFold (F149_dialplan_order 64) p) id 0 c.Includes o := by
 refine loop_list c.Includes (fun i o => (o, (i : Int))) _ _ (fun i a s hi => ?_) (fun s => ?_) o
 ·have hlt := (List.getElem?_eq_some_iff.1 hi).1
  have hd : (decide (((i : Nat) : Int) < (c.Includes.length : Int))) = true := by simpa using hlt
  simp only [F149_dialplan_ordern_l0, hd, cond_true, idx_nat, hi, Option.bind_some, contextAt_is p a h1, oFold, atC]
  cases F149_dialplan_order 64 p (idxI (fun c => c.Key == a) p.Contexts) s with
  | none => rfl
  | some z =>
   simp only [Option.bind_some]
   rw [w64 (by omega) (by omega)]; rfl
 ·simp [F149_dialplan_ordern_l0]
theorem ordern_is (p : T_api_Plan) (i : Int) (c : T_api_Context) (r : List Int) (h0 : idx p.Contexts i = some c) (h1 : p.Contexts.length ≤ 1000) (h2 : c.Includes.length ≤ 1000) (h : foldE (oFold (C149 64) p) id 0 c.Includes [i] = some r) : F149_dialplan_ordern p i = some r := by
 unfold F149_dialplan_ordern
 rw [contInt_is _ _ (by simp)]
 simp only [Option.bind_some, List.any_nil, cond_false]
 rw [app_of (by simp) (by simp)]
 simp only [Option.bind_some, h0, List.nil_append]
 rw [ordern_fold p c [i] h1 h2, foldE_le (fun i a s r hr => ?_) _ _ _ _ h]
 ·rfl
 ·unfold oFold at hr ⊢
  cases h4 : C149 64 p (atC p a) s with
  | none => rw [h4] at hr; simp at hr
  | some z => rw [h4] at hr; rw [c149_le 64 _ _ _ _ h4]; exact hr
theorem keyCa : F69_number_IsKey kca = some true := by kernel_rfl
theorem keyCb : F69_number_IsKey kcb = some true := by kernel_rfl
theorem keyCc : F69_number_IsKey kcc = some true := by kernel_rfl

section
variable {p : T_api_Plan} {a b : T_api_Hours} {R0 R1 R2 : List T_api_Rule} {I0 I1 : List (List UInt8)} {most : Int}
theorem LGood.up {R : List T_api_Rule} {m n : Int} (h : LGood R m) (e : m ≤ n) : LGood R n := ⟨by have := h.1; omega, h.2⟩
theorem ctxs_ok (h : PlanOk p a b R0 R1 R2 I0 I1 most) : loopO (fun s : Int => F147_dialplan_CheckPlan_l0 p s) 0 = some (.inl ()) := by
 obtain ⟨rfl, r0, r1, r2, i0, i1, _, ka, _, kb, h4⟩ := h
 have len (R : List T_api_Rule) (h : LGood R 4) : (decide (((R.length : Nat) : Int) > 200)) = false := by have := h.1; simp; omega
 have lI (I : List (List UInt8)) (h : I ∈ inc0 ∨ I ∈ inc1) : (decide (((I.length : Nat) : Int) > 10)) = false := by
  simp only [inc0, inc1, List.mem_cons, List.not_mem_nil, or_false] at h
  rcases h with (rfl | rfl | rfl | rfl) | (rfl | rfl) <;> rfl
 have r0 := r0.up h4
 have r1 := r1.up h4
 have r2 := r2.up h4
 have c0 : F195_dialplan_checkContext ⟨[⟨kca, R0, I0⟩, ⟨kcb, R1, I1⟩, ⟨kcc, R2, []⟩], [a, b]⟩ 0 = some 0 := by
  simp only [F195_dialplan_checkContext, show ∀ x y : T_api_Context, idx [⟨kca, R0, I0⟩, x, y] 0 = some ⟨kca, R0, I0⟩ from fun _ _ => rfl, Option.bind_some, keyCa, Bool.not_true, cond_false, show decide ((0 : Int) > 0) = false from rfl, bnd, len R0 r0]
  rw [rules_ok rfl ka kb kca I0 r0]
  simp only [lret, lI I0 (.inl i0), cond_false]
  rw [incs_ok kca R0 (.inl i0)]
 have c1 : F195_dialplan_checkContext ⟨[⟨kca, R0, I0⟩, ⟨kcb, R1, I1⟩, ⟨kcc, R2, []⟩], [a, b]⟩ 1 = some 0 := by
  have e : IntKind.wrap .i64 ((1 : Int) - 1) = 0 := by decide
  have hlt : (Op.bytesLess kcb kca || kcb == kca) = false := by kernel_rfl
  simp only [F195_dialplan_checkContext, show ∀ x y : T_api_Context, idx [x, ⟨kcb, R1, I1⟩, y] 1 = some ⟨kcb, R1, I1⟩ from fun _ _ => rfl, Option.bind_some, keyCb, Bool.not_true, cond_false, show decide ((1 : Int) > 0) = true from rfl, cond_true, e,
   show ∀ x y : T_api_Context, idx [⟨kca, R0, I0⟩, x, y] 0 = some ⟨kca, R0, I0⟩ from fun _ _ => rfl, hlt, bnd, len R1 r1]
  rw [rules_ok rfl ka kb kcb I1 r1]
  simp only [lret, lI I1 (.inr i1), cond_false]
  rw [incs_ok kcb R1 (.inr i1)]
 have c2 : F195_dialplan_checkContext ⟨[⟨kca, R0, I0⟩, ⟨kcb, R1, I1⟩, ⟨kcc, R2, []⟩], [a, b]⟩ 2 = some 0 := by
  have e : IntKind.wrap .i64 ((2 : Int) - 1) = 1 := by decide
  have hlt : (Op.bytesLess kcc kcb || kcc == kcb) = false := by kernel_rfl
  simp only [F195_dialplan_checkContext, show ∀ x y : T_api_Context, idx [x, y, ⟨kcc, R2, []⟩] 2 = some ⟨kcc, R2, []⟩ from fun _ _ => rfl, Option.bind_some, keyCc, Bool.not_true, cond_false, show decide ((2 : Int) > 0) = true from rfl, cond_true, e,
   show ∀ x y : T_api_Context, idx [x, ⟨kcb, R1, I1⟩, y] 1 = some ⟨kcb, R1, I1⟩ from fun _ _ => rfl, hlt, bnd, len R2 r2]
  rw [rules_ok rfl ka kb kcc [] r2]
  simp only [lret, lI [] (.inr (by simp [inc1])), cond_false]
  rw [incs_ok kcc R2 (.inr (by simp [inc1]))]
 have st (i : Int) (h0 : 0 ≤ i) (h3 : i < 3) (hc : F195_dialplan_checkContext ⟨[⟨kca, R0, I0⟩, ⟨kcb, R1, I1⟩, ⟨kcc, R2, []⟩], [a, b]⟩ i = some 0) : F147_dialplan_CheckPlan_l0 ⟨[⟨kca, R0, I0⟩, ⟨kcb, R1, I1⟩, ⟨kcc, R2, []⟩], [a, b]⟩ i = some (.inl (i + 1)) := by
  have hd : (decide (i < ((List.length [(⟨kca, R0, I0⟩ : T_api_Context), ⟨kcb, R1, I1⟩, ⟨kcc, R2, []⟩] : Nat) : Int))) = true := by simpa using h3
  simp only [F147_dialplan_CheckPlan_l0, hd, cond_true, hc, Option.bind_some, bne_self_eq_false, cond_false]
  rw [w64 (by omega) (by omega)]
 exact (loop2 (st 0 (by omega) (by omega) c0)).trans ((loop2 (st 1 (by omega) (by omega) c1)).trans ((loop2 (st 2 (by omega) (by omega) c2)).trans (loop3 (by simp [F147_dialplan_CheckPlan_l0]))))
end
end Go.Proofs.YtagbgmkocjfanaaGreatDoor

/-
 Dial plans: plans that are drawn pass the check; what is asked.
-/
namespace Go.Proofs.YtagbgmkocjfanaaGreatDoor
open Go Go.Abs
set_option maxRecDepth 100000
set_option maxHeartbeats 1000000

section
variable {p : T_api_Plan} {a b : T_api_Hours} {R0 R1 R2 : List T_api_Rule} {I0 I1 : List (List UInt8)} {most : Int}
theorem there_is (p : T_api_Plan) (c : T_api_Context) (h1 : p.Contexts.length ≤ 1000) (h2 : c.Includes.length ≤ 1000) (h : c.Includes.all (fun s => decide (0 ≤ atC p s)) = true) : loopO (fun s : Int => F147_dialplan_CheckPlan_l2 p c s) 0 = some (.inl ()) := by
 have := loop_for (N := c.Includes.length) (step := fun s : Int => F147_dialplan_CheckPlan_l2 p c s) (fun k => (k : Int)) (.inl ()) (fun k hk => by
  have hd : (decide (((k : Nat) : Int) < ((c.Includes.length : Nat) : Int))) = true := by simpa using hk
  have hg := List.all_eq_true.1 h _ (List.getElem_mem hk)
  have hn : (decide (atC p c.Includes[k] < 0)) = false := by simpa using hg
  simp only [F147_dialplan_CheckPlan_l2]
  rw [hd, idx_at hk]
  simp only [cond_true, Option.bind_some, contextAt_is p _ h1]
  unfold atC at hn
  rw [hn]
  simp only [cond_false]
  rw [w64 (by omega) (by omega)]; rfl) (by simp [F147_dialplan_CheckPlan_l2])
 simpa using this
theorem check_of (hours : F194_dialplan_CheckHours p.Hours = some 0) (h3 : p.Contexts.length = 3) (hi : ∀ c ∈ p.Contexts, c.Includes.length ≤ 1000 ∧ c.Includes.all (fun s => decide (0 ≤ atC p s)) = true)
  (hc : loopO (fun s : Int => F147_dialplan_CheckPlan_l0 p s) 0 = some (.inl ())) {s1 s2 s3 : List Int} (k0 : C196 64 0 [0, 0, 0] p = some (s1, false)) (k1 : C196 64 1 s1 p = some (s2, false)) (k2 : C196 64 2 s2 p = some (s3, false)) :
  F147_dialplan_CheckPlan p = some 0 := by
 have n1 : (decide (((p.Contexts.length : Nat) : Int) > 50)) = false := by rw [h3]; rfl
 have l1 : loopO (fun s : Int => F147_dialplan_CheckPlan_l1 p s) 0 = some (.inl ()) := by
  have := loop_for (N := p.Contexts.length) (step := fun s : Int => F147_dialplan_CheckPlan_l1 p s) (fun k => (k : Int)) (.inl ()) (fun k hk => by
   have hd : (decide (((k : Nat) : Int) < ((p.Contexts.length : Nat) : Int))) = true := by simpa using hk
   obtain ⟨q1, q2⟩ := hi _ (List.getElem_mem hk)
   simp only [F147_dialplan_CheckPlan_l1]
   rw [hd, idx_at hk]
   simp only [cond_true, Option.bind_some, there_is p _ (by omega) q1 q2, lret]
   rw [w64 (by omega) (by omega)]; rfl) (by simp [F147_dialplan_CheckPlan_l1])
  simpa using this
 have hm : mkN 8 ((p.Contexts.length : Nat) : Int) (0 : Int) = some [0, 0, 0] := by rw [h3]; rfl
 have st (i : Int) (h0 : 0 ≤ i) (h3' : i < 3) {s s' : List Int} (k : C196 64 i s p = some (s', false)) : F147_dialplan_CheckPlan_l3 p i p s = some (.inl (i + 1, p, s')) := by
  have hd : (decide (i < ((p.Contexts.length : Nat) : Int))) = true := by rw [h3]; simpa using h3'
  simp only [F147_dialplan_CheckPlan_l3, hd, cond_true, c196_le 64 _ _ _ _ k, Option.bind_some, cond_false]
  rw [w64 (by omega) (by omega)]
 have l3 : loopO (fun s : Int × T_api_Plan × List Int => F147_dialplan_CheckPlan_l3 p s.1 s.2.1 s.2.2) (0, p, [0, 0, 0]) = some (.inl ()) :=
  (loop2 (s' := (1, p, s1)) (st 0 (by omega) (by omega) k0)).trans ((loop2 (s' := (2, p, s2)) (st 1 (by omega) (by omega) k1)).trans ((loop2 (s' := (3, p, s3)) (st 2 (by omega) (by omega) k2)).trans (loop3 (by
   simp only [F147_dialplan_CheckPlan_l3, h3]; rfl))))
 simp only [F147_dialplan_CheckPlan, hours, Option.bind_some, bne_self_eq_false, cond_false, n1, hc, lret, l1, hm, l3]
/-- The contexts that are asked for the first one. -/
theorem check_is (h : PlanOk p a b R0 R1 R2 I0 I1 most) : F147_dialplan_CheckPlan p = some 0 ∧ ∃ o, F149_dialplan_ordern p 0 = some o ∧ o.length ≤ 3 ∧ o[0]? = some 0 ∧ (∀ i ∈ o, i = 0 ∨ i = 1 ∨ i = 2) ∧ o.Nodup := by
 have hc := ctxs_ok h
 obtain ⟨rfl, r0, r1, r2, i0, i1, ha, ka, hb, kb, h4⟩ := h
 have hours := checkHours_is ha ka hb kb
 have len : ∀ x y z : T_api_Context, (([x, y, z] : List T_api_Context).length) ≤ 1000 := fun _ _ _ => by simp
 simp only [inc0, inc1, List.mem_cons, List.not_mem_nil, or_false] at i0 i1
 rcases i0 with rfl | rfl | rfl | rfl <;> rcases i1 with rfl | rfl
 ·exact ⟨check_of hours rfl (by intro c hc; simp at hc; rcases hc with rfl | rfl | rfl <;> exact ⟨by simp, by kernel_rfl⟩) hc (s1 := [2, 0, 0]) (s2 := [2, 2, 0]) (s3 := [2, 2, 2]) (by kernel_rfl) (by kernel_rfl) (by kernel_rfl),
   [0], ordern_is _ 0 ⟨kca, R0, []⟩ _ rfl (len _ _ _) (by simp) (by kernel_rfl), by simp, rfl, by simp, by simp⟩
 ·exact ⟨check_of hours rfl (by intro c hc; simp at hc; rcases hc with rfl | rfl | rfl <;> exact ⟨by simp, by kernel_rfl⟩) hc (s1 := [2, 0, 0]) (s2 := [2, 2, 2]) (s3 := [2, 2, 2]) (by kernel_rfl) (by kernel_rfl) (by kernel_rfl),
   [0], ordern_is _ 0 ⟨kca, R0, []⟩ _ rfl (len _ _ _) (by simp) (by kernel_rfl), by simp, rfl, by simp, by simp⟩
 ·exact ⟨check_of hours rfl (by intro c hc; simp at hc; rcases hc with rfl | rfl | rfl <;> exact ⟨by simp, by kernel_rfl⟩) hc (s1 := [2, 2, 0]) (s2 := [2, 2, 0]) (s3 := [2, 2, 2]) (by kernel_rfl) (by kernel_rfl) (by kernel_rfl),
   [0, 1], ordern_is _ 0 ⟨kca, R0, [[99, 98]]⟩ _ rfl (len _ _ _) (by simp) (by kernel_rfl), by simp, rfl, by simp, by simp⟩
 ·exact ⟨check_of hours rfl (by intro c hc; simp at hc; rcases hc with rfl | rfl | rfl <;> exact ⟨by simp, by kernel_rfl⟩) hc (s1 := [2, 2, 2]) (s2 := [2, 2, 2]) (s3 := [2, 2, 2]) (by kernel_rfl) (by kernel_rfl) (by kernel_rfl),
   [0, 1, 2], ordern_is _ 0 ⟨kca, R0, [[99, 98]]⟩ _ rfl (len _ _ _) (by simp) (by kernel_rfl), by simp, rfl, by simp, by simp⟩
 ·exact ⟨check_of hours rfl (by intro c hc; simp at hc; rcases hc with rfl | rfl | rfl <;> exact ⟨by simp, by kernel_rfl⟩) hc (s1 := [2, 2, 2]) (s2 := [2, 2, 2]) (s3 := [2, 2, 2]) (by kernel_rfl) (by kernel_rfl) (by kernel_rfl),
   [0, 2, 1], ordern_is _ 0 ⟨kca, R0, [[99, 99], [99, 98]]⟩ _ rfl (len _ _ _) (by simp) (by kernel_rfl), by simp, rfl, by simp, by simp⟩
 ·exact ⟨check_of hours rfl (by intro c hc; simp at hc; rcases hc with rfl | rfl | rfl <;> exact ⟨by simp, by kernel_rfl⟩) hc (s1 := [2, 2, 2]) (s2 := [2, 2, 2]) (s3 := [2, 2, 2]) (by kernel_rfl) (by kernel_rfl) (by kernel_rfl),
   [0, 2, 1], ordern_is _ 0 ⟨kca, R0, [[99, 99], [99, 98]]⟩ _ rfl (len _ _ _) (by simp) (by kernel_rfl), by simp, rfl, by simp, by simp⟩
 ·exact ⟨check_of hours rfl (by intro c hc; simp at hc; rcases hc with rfl | rfl | rfl <;> exact ⟨by simp, by kernel_rfl⟩) hc (s1 := [2, 2, 2]) (s2 := [2, 2, 2]) (s3 := [2, 2, 2]) (by kernel_rfl) (by kernel_rfl) (by kernel_rfl),
   [0, 1, 2], ordern_is _ 0 ⟨kca, R0, [[99, 98], [99, 99]]⟩ _ rfl (len _ _ _) (by simp) (by kernel_rfl), by simp, rfl, by simp, by simp⟩
 ·exact ⟨check_of hours rfl (by intro c hc; simp at hc; rcases hc with rfl | rfl | rfl <;> exact ⟨by simp, by kernel_rfl⟩) hc (s1 := [2, 2, 2]) (s2 := [2, 2, 2]) (s3 := [2, 2, 2]) (by kernel_rfl) (by kernel_rfl) (by kernel_rfl),
   [0, 1, 2], ordern_is _ 0 ⟨kca, R0, [[99, 98], [99, 99]]⟩ _ rfl (len _ _ _) (by simp) (by kernel_rfl), by simp, rfl, by simp, by simp⟩
/-- A context of a plan that is drawn. -/
def CGood (c : T_api_Context) : Prop := LGood c.Rules 4
theorem open_is2 (h : PlanOk p a b R0 R1 R2 I0 I1 most) : ∃ l, F88_dialplan_open p kca = some (l, 0) ∧ (∀ c ∈ l, CGood c ∧ c ∈ p.Contexts) ∧ l.length ≤ 3 ∧ l[0]? = p.Contexts[0]? := by
 obtain ⟨h1, o, h2, h3, h0, h4, _⟩ := check_is h
 obtain ⟨rfl, r0, r1, r2, i0, i1, ha, ka, hb, kb, hm⟩ := h
 have hat : F148_dialplan_contextAt ⟨[⟨kca, R0, I0⟩, ⟨kcb, R1, I1⟩, ⟨kcc, R2, []⟩], [a, b]⟩ kca = some 0 := by
  rw [contextAt_is _ _ (by simp)]; rfl
 have hg : ∀ i, i = 0 ∨ i = 1 ∨ i = 2 → ∃ c, idx [⟨kca, R0, I0⟩, ⟨kcb, R1, I1⟩, ⟨kcc, R2, []⟩] i = some c ∧ CGood c ∧ c ∈ [(⟨kca, R0, I0⟩ : T_api_Context), ⟨kcb, R1, I1⟩, ⟨kcc, R2, []⟩] := by
  rintro i (rfl | rfl | rfl)
  ·exact ⟨_, rfl, r0.up hm, by simp⟩
  ·exact ⟨_, rfl, r1.up hm, by simp⟩
  ·exact ⟨_, rfl, r2.up hm, by simp⟩
 have hl := loop_list (step := fun s : List T_api_Context × Int => F88_dialplan_open_l0 ⟨[⟨kca, R0, I0⟩, ⟨kcb, R1, I1⟩, ⟨kcc, R2, []⟩], [a, b]⟩ o s.1 s.2) o (fun i (s : List T_api_Context) => (s, (i : Int)))
  (fun _ i s => (idx [(⟨kca, R0, I0⟩ : T_api_Context), ⟨kcb, R1, I1⟩, ⟨kcc, R2, []⟩] i).bind fun c => (app 64 s [c]).bind fun s' => some (.inl s')) id (fun i x s hi => by
   have hlt := (List.getElem?_eq_some_iff.1 hi).1
   have hd : (decide (((i : Nat) : Int) < (o.length : Int))) = true := by simpa using hlt
   simp only [F88_dialplan_open_l0, hd, cond_true, idx_nat, hi, Option.bind_some]
   cases idx [(⟨kca, R0, I0⟩ : T_api_Context), ⟨kcb, R1, I1⟩, ⟨kcc, R2, []⟩] x with
   | none => rfl
   | some c =>
    simp only [Option.bind_some]
    cases app 64 s [c] with
    | none => rfl
    | some s' => simp only [Option.bind_some]; rw [w64 (by omega) (by omega)]; rfl) (fun s => by simp [F88_dialplan_open_l0]) []
 obtain ⟨l, e1, e2, e3, e4⟩ := foldE_ind (f := fun _ i (s : List T_api_Context) => (idx [(⟨kca, R0, I0⟩ : T_api_Context), ⟨kcb, R1, I1⟩, ⟨kcc, R2, []⟩] i).bind fun c => (app 64 s [c]).bind fun s' => some (Sum.inl s' : List T_api_Context ⊕ List T_api_Context)) (fin := id)
  (fun i s => s.length = i ∧ (∀ c ∈ s, CGood c ∧ c ∈ [(⟨kca, R0, I0⟩ : T_api_Context), ⟨kcb, R1, I1⟩, ⟨kcc, R2, []⟩]) ∧ (0 < i → s[0]? = some ⟨kca, R0, I0⟩)) (fun l => (∀ c ∈ l, CGood c ∧ c ∈ [(⟨kca, R0, I0⟩ : T_api_Context), ⟨kcb, R1, I1⟩, ⟨kcc, R2, []⟩]) ∧ l.length ≤ 3 ∧ l[0]? = some ⟨kca, R0, I0⟩) o 0 [] ⟨rfl, by simp, by omega⟩ (fun j x s hj ⟨q1, q2, q3⟩ => by
   obtain ⟨c, c1, c2, c3⟩ := hg x (h4 x (List.mem_of_getElem? hj))
   have hlt := (List.getElem?_eq_some_iff.1 hj).1
   have hx0 : j = 0 → c = ⟨kca, R0, I0⟩ := by
    intro e
    rw [e, h0] at hj
    have := Option.some.inj hj
    subst this
    exact (Option.some.inj c1).symm
   refine .inl ⟨s ++ [c], ?_, by simp; omega, fun d hd => ?_, fun _ => ?_⟩
   ·simp only [c1, Option.bind_some]
    rw [app_of (by simp; omega) (by simp; omega)]; rfl
   ·rcases List.mem_append.1 hd with hd | hd
    ·exact q2 d hd
    ·simp at hd; subst hd; exact ⟨c2, c3⟩
   ·by_cases hs : s = []
    ·subst hs
     simp at q1
     simp [hx0 (by omega)]
    ·have : 0 < s.length := List.length_pos_iff.2 hs
     rw [List.getElem?_append_left this]
     exact q3 (by omega)) (fun s ⟨q1, q2, q3⟩ => ⟨q2, by simp only [id]; omega, q3 (by
    have := (List.getElem?_eq_some_iff.1 h0).1
    omega)⟩)
 rw [e1] at hl
 refine ⟨l, ?_, e2, e3, e4⟩
 simp only [F88_dialplan_open, h1, Option.bind_some, bne_self_eq_false, cond_false, hat, show decide ((0 : Int) < 0) = false from rfl, h2]
 have hl : loopO (fun s : List T_api_Context × Int => F88_dialplan_open_l0 ⟨[⟨kca, R0, I0⟩, ⟨kcb, R1, I1⟩, ⟨kcc, R2, []⟩], [a, b]⟩ o s.1 s.2) ([], 0) = some l := hl
 rw [hl]; rfl
theorem ask_is (h : PlanOk p a b R0 R1 R2 I0 I1 most) : ∃ l, (∀ c ∈ l, CGood c ∧ c ∈ p.Contexts) ∧ l.length ≤ 3 ∧ l[0]? = p.Contexts[0]? ∧ ∀ (bs : List Nat) (at_ : Int), (∀ b ∈ bs, b < 12) → 1 ≤ bs.length → bs.length ≤ 30 → 0 ≤ at_ → at_ < 345686400000 → F77_dialplan_ask p kca (bs.map SG) at_ = some (l, 0) := by
 obtain ⟨l, h1, h2, h3, h4⟩ := open_is2 h
 refine ⟨l, h2, h3, h4, fun bs at_ b1 b2 b3 a1 a2 => ?_⟩
 have hm : F70_number_IsMoment at_ = some true := by simp [F70_number_IsMoment, bnd, a1, a2]
 simp only [F77_dialplan_ask, h1, Option.bind_some, bne_self_eq_false, cond_false, isDialled_is bs b1 b2 b3, Bool.not_true, hm]
end
end Go.Proofs.YtagbgmkocjfanaaGreatDoor

/-
 WaitsAreTrue: which rule decides, and whether one could; the law.
-/
namespace Go.Proofs.YtagbgmkocjfanaaGreatDoor
open Go Go.Abs
set_option maxRecDepth 100000
set_option maxHeartbeats 1000000

theorem begins2_is {es : List Nat} {t : Nat} (h : ∀ e ∈ es, e < 12) (ht : t < 3) (bs : List Nat) (hb : ∀ b ∈ bs, b < 12) (hl : bs.length ≤ 100) :
  ∃ s w, F94_dialplan_pattern_begins (PT es t) (bs.map SG) = some (s, w) ∧ (w = true ↔ mt es t bs) ∧ ((∀ i (h : i < bs.length), has (mc es t i) bs[i] = true) → s = (MC (mc es t bs.length) != 0 || ed es t bs.length)) := by
 obtain ⟨s, w, e, hw⟩ := begins_is h ht bs hb hl
 refine ⟨s, w, e, hw, fun hall => ?_⟩
 have hln : ((List.length (bs.map SG) : Nat) : Int) = (bs.length : Int) := by simp
 have hloop : loopO (fun s : Int => F94_dialplan_pattern_begins_l0 (PT es t) (bs.map SG) s) 0 = some (.inl ()) := by
  have := loop_for (N := bs.length) (step := fun s : Int => F94_dialplan_pattern_begins_l0 (PT es t) (bs.map SG) s) (fun k => (k : Int)) (.inl ()) (fun k hk => by
   have hm : k < (bs.map SG).length := by simpa using hk
   have hd : (decide (((k : Nat) : Int) < (bs.length : Int))) = true := by simp; exact hk
   have hbi := hb _ (List.getElem_mem hk)
   have hid : idx (bs.map SG) (k : Int) = some (SG bs[k]) := by rw [idx_at hm]; simp
   simp only [F94_dialplan_pattern_begins_l0, hln, hd, cond_true, takes_is h ht, hid, Option.bind_some, only_is hbi, has_is (mc_lt (t := t) h k) hbi, hall k hk, Bool.not_true, cond_false]
   rw [w64 (by omega) (by omega)]; rfl) (by simp [F94_dialplan_pattern_begins_l0])
  simpa using this
 simp only [F94_dialplan_pattern_begins, hloop, lret, hln, takes_is h ht, Option.bind_some, bnd] at e
 have e := Option.some.inj e
 exact (Prod.mk.inj e).1.symm

section
variable {p : T_api_Plan} {a b : T_api_Hours} {R0 R1 R2 : List T_api_Rule} {I0 I1 : List (List UInt8)} {most : Int}
/-- Does a rule fit what is dialled? -/
noncomputable def fits (a b : T_api_Hours) (d : List UInt8) (at_ : Int) (r : T_api_Rule) : Bool := match F79_dialplan_read r.Pattern with
 | some (pt, _) => match F94_dialplan_pattern_begins pt d with
  | some (_, w) => w && cnt a b r.Hours at_
  | none => false
 | none => false
/-- Could it fit more? -/
noncomputable def could (a b : T_api_Hours) (d : List UInt8) (at_ : Int) (r : T_api_Rule) : Bool := match F79_dialplan_read r.Pattern with
 | some (pt, _) => match F81_dialplan_longer pt d with
  | some w => cnt a b r.Hours at_ && w
  | none => false
 | none => false
theorem decides_is (hp : p.Hours = [a, b]) (ha : HGood a) (ka : a.Key = kHa) (hb : HGood b) (kb : b.Key = kHb) {c : T_api_Context} (hc : CGood c) {bs : List Nat} (h1 : ∀ b ∈ bs, b < 12) (h2 : bs.length ≤ 100) {at_ : Int} (t1 : 0 ≤ at_) (t2 : at_ ≤ 1000000000) :
  ∃ k, F78_dialplan_decides p c (bs.map SG) at_ = some k ∧ -1 ≤ k ∧ k < c.Rules.length ∧ (decide (k < 0) = !(c.Rules.any (fits a b (bs.map SG) at_))) := by
 obtain ⟨c1, c2, _⟩ := hc
 obtain ⟨e, e1, e2, e3, e4⟩ := loopO_ind (step := fun s : Int × Int × T_dialplan_pattern => F78_dialplan_decides_l0 p c (bs.map SG) at_ s.1 s.2.1 s.2.2)
  (fun q => 0 ≤ q.2.1 ∧ q.2.1 ≤ c.Rules.length ∧ -1 ≤ q.1 ∧ q.1 < q.2.1 + (if q.1 < 0 then 1 else 0) ∧ (decide (q.1 < 0) = !((c.Rules.take q.2.1.toNat).any (fits a b (bs.map SG) at_))) ∧ (0 ≤ q.1 → ∃ es t, q.2.2 = PT es t ∧ (∀ e ∈ es, e < 12) ∧ t < 3 ∧ es.length ≤ 4))
  (fun k => -1 ≤ k ∧ k < c.Rules.length + (if k < 0 then 1 else 0) ∧ (decide (k < 0) = !(c.Rules.any (fits a b (bs.map SG) at_)))) (fun q => (c.Rules.length - q.2.1).toNat) (fun q hq => by
   obtain ⟨k, n, m⟩ := q
   obtain ⟨q0, q1, q2, q3, q4, q5⟩ := hq
   simp only [] at q0 q1 q2 q3 q4 q5
   simp only [F78_dialplan_decides_l0]
   by_cases hlt : n < c.Rules.length
   ·obtain ⟨i, rfl⟩ := Int.eq_ofNat_of_zero_le q0
    have hi : i < c.Rules.length := by omega
    obtain ⟨⟨es, t, g1⟩, _, _, _, _, g2, _⟩ := c2 _ (List.getElem_mem hi)
    obtain ⟨s, w, e1, e2, _⟩ := begins2_is g1.2.2.2.1 g1.2.2.2.2 bs h1 h2
    have hcn := counts_is p hp ha ka hb kb g2 t1 t2
    have hf : fits a b (bs.map SG) at_ c.Rules[i] = (w && cnt a b c.Rules[i].Hours at_) := by simp only [fits, read_is g1, e1]
    have htake : ((c.Rules.take (i + 1)).any (fits a b (bs.map SG) at_)) = ((c.Rules.take i).any (fits a b (bs.map SG) at_) || (w && cnt a b c.Rules[i].Hours at_)) := by
     rw [List.take_succ_eq_append_getElem hi, List.any_append, List.any_cons, List.any_nil, Bool.or_false, hf]
    have hti : ((i : Int) + 1).toNat = i + 1 := by omega
    simp only [hlt, decide_true, cond_true, idx_at hi, Option.bind_some, read_is g1, e1, hcn]
    cases w with
    | false =>
     simp only [Bool.not_false, cond_true, Option.bind_some]
     rw [w64 (by omega) (by omega)]
     refine .inr ⟨_, rfl, ⟨by (try simp only []); omega, by (try simp only []); omega, q2, by (try simp only []); split at q3 <;> simp_all <;> omega, ?_, q5⟩, by (try simp only []); omega⟩
     simp only [hti, htake, Bool.false_and, Bool.or_false]
     simpa using q4
    | true =>
     simp only [Bool.not_true, cond_false, Option.bind_some]
     cases hcv : cnt a b c.Rules[i].Hours at_ with
     | false =>
      simp only [Bool.not_false, cond_true]
      rw [w64 (by omega) (by omega)]
      refine .inr ⟨_, rfl, ⟨by (try simp only []); omega, by (try simp only []); omega, q2, by (try simp only []); split at q3 <;> simp_all <;> omega, ?_, q5⟩, by (try simp only []); omega⟩
      simp only [hti, htake, hcv, Bool.true_and, Bool.or_false]
      simpa using q4
     | true =>
      simp only [Bool.not_true, cond_false]
      have hnew : (decide ((i : Int) < 0) = !((c.Rules.take ((i : Int) + 1).toNat).any (fits a b (bs.map SG) at_))) := by
       simp only [hti, htake, hcv, Bool.true_and, Bool.or_true]
       simp
      by_cases hk : k < 0
      ·simp only [hk, decide_true, cond_true, Option.bind_some]
       rw [w64 (by omega) (by omega)]
       exact .inr ⟨_, rfl, ⟨by (try simp only []); omega, by (try simp only []); omega, by (try simp only []); omega, by (try simp only []); rw [if_neg (by omega)]; omega, hnew, fun _ => ⟨es, t, rfl, g1.2.2.2.1, g1.2.2.2.2, g1.2.2.1⟩⟩, by (try simp only []); omega⟩
      ·obtain ⟨es', t', m1, m2, m3, m4⟩ := q5 (by omega)
       obtain ⟨kk, k1, _⟩ := before_is g1.2.2.2.1 g1.2.2.2.2 g1.2.2.1 m2 m3 m4
       simp only [hk, decide_false, cond_false, m1, k1, Option.bind_some]
       cases hkk : decide (kk < 0) with
       | true =>
        simp only [cond_true]
        rw [w64 (by omega) (by omega)]
        exact .inr ⟨_, rfl, ⟨by (try simp only []); omega, by (try simp only []); omega, by (try simp only []); omega, by (try simp only []); rw [if_neg (by omega)]; omega, hnew, fun _ => ⟨es, t, rfl, g1.2.2.2.1, g1.2.2.2.2, g1.2.2.1⟩⟩, by (try simp only []); omega⟩
       | false =>
        simp only [cond_false]
        rw [w64 (by omega) (by omega)]
        refine .inr ⟨_, rfl, ⟨by (try simp only []); omega, by (try simp only []); omega, q2, by (try simp only []); split at q3 <;> simp_all <;> omega, ?_, fun _ => ⟨es', t', rfl, m2, m3, m4⟩⟩, by (try simp only []); omega⟩
        simp only [hti, htake, hcv, Bool.true_and, Bool.or_true]
        simpa using hk
   ·have hn : n.toNat = c.Rules.length := by omega
    refine .inl ⟨k, by simp [hlt], q2, by split at q3 <;> simp_all <;> omega, ?_⟩
    rw [hn, List.take_length] at q4
    exact q4) (-1, 0, ⟨[], 0⟩) ⟨by simp, by simp, by simp, by simp, by simp, by simp⟩
 refine ⟨e, by simp only [F78_dialplan_decides, e1, Option.bind_some], e2, ?_, e4⟩
 by_cases hk : e < 0
 ·by_cases hz : (c.Rules.length : Int) = 0
  ·simp [hk] at e3; omega
  ·omega
 ·simp [hk] at e3; omega
end
end Go.Proofs.YtagbgmkocjfanaaGreatDoor

/-
 WaitsAreTrue: the law.
-/
namespace Go.Proofs.YtagbgmkocjfanaaGreatDoor
open Go Go.Abs
set_option maxRecDepth 100000
set_option maxHeartbeats 1000000

section
variable {p : T_api_Plan} {a b : T_api_Hours}
theorem map_len (bs : List Nat) : (List.length (bs.map SG) : Int) = (bs.length : Int) := by simp
/-- Decide, of contexts that are asked. -/
theorem decide_loop (hp : p.Hours = [a, b]) (ha : HGood a) (ka : a.Key = kHa) (hb : HGood b) (kb : b.Key = kHb) (l : List T_api_Context) (hl : l.length ≤ 3) (hg : ∀ c ∈ l, CGood c) (y : List T_api_Context × Int) (hy : y.1 = l) {bs : List Nat} (h1 : ∀ b ∈ bs, b < 12) (h2 : bs.length ≤ 20) {at_ : Int} (t1 : 0 ≤ at_) (t2 : at_ ≤ 1000000000) (h0 : T_api_Hit) :
  ∃ e, loopO (fun s : Int × T_api_Hit => F29_dialplan_Decide_l0 p (bs.map SG) at_ y s.1 s.2) (0, h0) = some e ∧ (match e with
   | .inl _ => l.any (fun c => c.Rules.any (fits a b (bs.map SG) at_)) = false
   | .inr r => r.2 ≠ 8 ∧ l.any (fun c => c.Rules.any (fits a b (bs.map SG) at_)) = true) := by
 obtain ⟨e, e1, e2⟩ := loopO_ind (step := fun s : Int × T_api_Hit => F29_dialplan_Decide_l0 p (bs.map SG) at_ y s.1 s.2)
  (fun q => 0 ≤ q.1 ∧ q.1 ≤ l.length ∧ (l.take q.1.toNat).any (fun c => c.Rules.any (fits a b (bs.map SG) at_)) = false)
  (fun e => match e with
   | .inl _ => l.any (fun c => c.Rules.any (fits a b (bs.map SG) at_)) = false
   | .inr r => r.2 ≠ 8 ∧ l.any (fun c => c.Rules.any (fits a b (bs.map SG) at_)) = true) (fun q => (l.length - q.1).toNat) (fun q hq => by
   obtain ⟨n, h⟩ := q
   obtain ⟨q0, q1, q2⟩ := hq
   simp only [] at q0 q1 q2
   simp only [F29_dialplan_Decide_l0, hy]
   by_cases hlt : n < l.length
   ·obtain ⟨i, rfl⟩ := Int.eq_ofNat_of_zero_le q0
    have hi : i < l.length := by omega
    obtain ⟨k, d1, d2, d3, d4⟩ := decides_is hp ha ka hb kb (hg _ (List.getElem_mem hi)) h1 (by omega) t1 t2
    have hti : ((i : Int) + 1).toNat = i + 1 := by omega
    simp only [hlt, decide_true, cond_true, idx_at hi, Option.bind_some, d1]
    by_cases hk : k < 0
    ·simp only [hk, decide_true, cond_true]
     rw [w64 (by omega) (by omega)]
     refine .inr ⟨_, rfl, ⟨by (try simp only []); omega, by (try simp only []); omega, ?_⟩, by (try simp only []); omega⟩
     simp only [hti]
     have hq2 : (l.take i).any (fun c => c.Rules.any (fits a b (bs.map SG) at_)) = false := q2
     rw [List.take_succ_eq_append_getElem hi, List.any_append, hq2]
     simp only [hk, decide_true] at d4
     have : l[i].Rules.any (fits a b (bs.map SG) at_) = false := by
      cases hz : l[i].Rules.any (fits a b (bs.map SG) at_)
      ·rfl
      ·rw [hz] at d4; simp at d4
     simp [this]
    ·have hany : l.any (fun c => c.Rules.any (fits a b (bs.map SG) at_)) = true := by
      rw [List.any_eq_true]
      refine ⟨l[i], List.getElem_mem hi, ?_⟩
      cases hz : l[i].Rules.any (fits a b (bs.map SG) at_)
      ·rw [hz] at d4; simp [hk] at d4
      ·rfl
     obtain ⟨j, rfl⟩ := Int.eq_ofNat_of_zero_le (by omega : 0 ≤ k)
     have hj : j < l[i].Rules.length := by omega
     obtain ⟨_, g1, g2, _⟩ := (hg _ (List.getElem_mem hi)).2.1 _ (List.getElem_mem hj)
     have hpl : (l[i].Rules[j].Prefix).length ≤ 2 := by rcases g2 with h | h | h <;> rw [h] <;> simp
     have hmin : gmin l[i].Rules[j].Strip (bs.length : Int) ≤ bs.length ∧ 0 ≤ gmin l[i].Rules[j].Strip (bs.length : Int) := by unfold gmin; split <;> omega
     have hsub : sub (bs.map SG) (gmin l[i].Rules[j].Strip (bs.length : Int)) ((bs.map SG).length : Int) = some ((bs.map SG).drop (gmin l[i].Rules[j].Strip (bs.length : Int)).toNat) := by
      unfold sub
      rw [if_pos ⟨hmin.2, by rw [map_len]; exact hmin.1, Int.le_refl _⟩, Int.toNat_natCast, List.take_length]
     rw [map_len] at hsub
     simp only [hk, decide_false, cond_false, idx_at hj, Option.bind_some, map_len, hsub]
     rw [sadd_of (by simp; omega)]
     simp only [Option.bind_some]
     have hlen : (decide (((List.length (l[i].Rules[j].Prefix ++ (bs.map SG).drop (gmin l[i].Rules[j].Strip (bs.length : Int)).toNat) : Nat) : Int) > 30)) = false := by simp; omega
     simp only [hlen, cond_false]
     cases ((l[i].Rules[j].Prefix ++ (bs.map SG).drop (gmin l[i].Rules[j].Strip (bs.length : Int)).toNat) == ([] : List UInt8)) && (l[i].Rules[j].To == 1 || l[i].Rules[j].To == 2) with
     | true => exact .inl ⟨_, rfl, by simp, hany⟩
     | false => exact .inl ⟨_, rfl, by simp, hany⟩
   ·have hn : n.toNat = l.length := by omega
    refine .inl ⟨.inl h, by simp [hlt], ?_⟩
    rw [hn, List.take_length] at q2
    exact q2) (0, h0) ⟨by simp, by simp, by simp⟩
 exact ⟨e, e1, e2⟩
/-- What a longer string needs. -/
theorem long_is {es : List Nat} {t : Nat} (h : ∀ e ∈ es, e < 12) (ht : t < 3) (hl : es.length ≤ 4) (bs : List Nat) (hb : ∀ b ∈ bs, b < 12) (hbl : bs.length ≤ 20) :
  ∃ w, F81_dialplan_longer (PT es t) (bs.map SG) = some w ∧ ∀ cs : List Nat, cs ≠ [] → mt es t (bs ++ cs) → (∀ c ∈ cs, c < 12) → w = true := by
 obtain ⟨s, w, e1, e2, e3⟩ := begins2_is h ht bs hb (by omega)
 have hd : (decide ((bs.length : Int) ≥ 30)) = false := by simp; omega
 simp only [F81_dialplan_longer, e1, Option.bind_some, map_len, hd, Bool.or_false, sets_len, bnd]
 cases s with
 | false =>
  refine ⟨false, by simp, fun cs hcs hm hc12 => ?_⟩
  have hall : ∀ i (h : i < bs.length), has (mc es t i) bs[i] = true := fun i hi => by
   have := hm.1 i (by simp; omega)
   rwa [List.getElem_append_left hi] at this
  have hs := e3 hall
  obtain ⟨c, cs', rfl⟩ := List.exists_cons_of_ne_nil hcs
  have hz := hm.1 bs.length (by simp)
  rw [List.getElem_append_right (Nat.le_refl _)] at hz
  simp only [Nat.sub_self, List.getElem_cons_zero] at hz
  have hmc : MC (mc es t bs.length) = 0 := by
   have hs : (MC (mc es t bs.length) != 0 || ed es t bs.length) = false := hs.symm
   rw [Bool.or_eq_false_iff] at hs
   simpa using hs.1
  unfold has at hz
  rw [hmc] at hz
  simp at hz
 | true =>
  simp only [Bool.not_true, cond_false]
  by_cases h0 : t = 0
  ·subst h0
   have ht0 : ((PT es 0).tail != 0) = false := rfl
   simp only [ht0, cond_false]
   refine ⟨_, rfl, fun cs hcs hm _ => ?_⟩
   have he := hm.2
   have hlen : es.length = (bs ++ cs).length := by
    unfold ed at he
    split at he
    ·simp at he
    ·simp only [if_true, beq_iff_eq] at he; omega
   have : 0 < cs.length := List.length_pos_iff.2 hcs
   rw [List.length_append] at hlen
   simp; omega
  ·have ht0 : ((PT es t).tail != 0) = true := by rcases (by omega : t = 1 ∨ t = 2) with rfl | rfl <;> rfl
   simp only [ht0, cond_true]
   rcases (by omega : t = 1 ∨ t = 2) with rfl | rfl
   ·have h46 : ((PT es 1).tail == 46) = true := rfl
    simp only [h46, cond_true, Option.bind_some]
    rw [w64 (by omega) (by omega)]
    exact ⟨_, rfl, fun _ _ _ _ => by simp; omega⟩
   ·have h46 : ((PT es 2).tail == 46) = false := rfl
    simp only [h46, cond_false, Option.bind_some]
    exact ⟨_, rfl, fun _ _ _ _ => by simp; omega⟩
theorem could_of {r : T_api_Rule} (hr : RGood r) {bs cs : List Nat} (hb : ∀ b ∈ bs, b < 12) (hbl : bs.length ≤ 20) (hc : ∀ b ∈ cs, b < 12) (hcl : cs.length ≤ 20) (hne : cs ≠ []) {at_ : Int} (hf : fits a b ((bs ++ cs).map SG) at_ r = true) : could a b (bs.map SG) at_ r = true := by
 obtain ⟨⟨es, t, g1⟩, _⟩ := hr
 obtain ⟨s, w, e1, e2, _⟩ := begins2_is g1.2.2.2.1 g1.2.2.2.2 (bs ++ cs) (fun x hx => by rcases List.mem_append.1 hx with h | h; exact hb x h; exact hc x h) (by simp; omega)
 obtain ⟨w2, f1, f2⟩ := long_is g1.2.2.2.1 g1.2.2.2.2 g1.2.2.1 bs hb hbl
 simp only [fits, read_is g1, e1, Bool.and_eq_true] at hf
 simp only [could, read_is g1, f1, hf.2, f2 cs hne (e2.1 hf.1) hc, Bool.and_self]
/-- Waits, of contexts that are asked. -/
theorem more_loop (hp : p.Hours = [a, b]) (ha : HGood a) (ka : a.Key = kHa) (hb : HGood b) (kb : b.Key = kHb) {c : T_api_Context} (hc : CGood c) {bs : List Nat} (h1 : ∀ b ∈ bs, b < 12) (h2 : bs.length ≤ 20) {at_ : Int} (t1 : 0 ≤ at_) (t2 : at_ ≤ 1000000000) (m : Bool) :
  loopO (fun s : Bool × Int => F28_dialplan_Waits_l1 p (bs.map SG) at_ c s.1 s.2) (m, 0) = some (m || c.Rules.any (could a b (bs.map SG) at_)) := by
 obtain ⟨c1, c2, _⟩ := hc
 have := loop_for (N := c.Rules.length) (step := fun s : Bool × Int => F28_dialplan_Waits_l1 p (bs.map SG) at_ c s.1 s.2) (fun k => (m || (c.Rules.take k).any (could a b (bs.map SG) at_), (k : Int))) (m || c.Rules.any (could a b (bs.map SG) at_)) (fun k hk => by
  have hd : (decide (((k : Nat) : Int) < (c.Rules.length : Int))) = true := by simp; exact hk
  obtain ⟨⟨es, t, g1⟩, _, _, _, _, g2, _⟩ := c2 _ (List.getElem_mem hk)
  obtain ⟨w, f1, _⟩ := long_is g1.2.2.2.1 g1.2.2.2.2 g1.2.2.1 bs h1 h2
  have hcn := counts_is p hp ha ka hb kb g2 t1 t2
  have hcd : could a b (bs.map SG) at_ c.Rules[k] = (cnt a b c.Rules[k].Hours at_ && w) := by simp only [could, read_is g1, f1]
  rw [List.take_succ_eq_append_getElem hk, List.any_append, List.any_cons, List.any_nil, Bool.or_false, hcd]
  simp only [F28_dialplan_Waits_l1, hd, cond_true, idx_at hk, Option.bind_some, read_is g1, hcn, f1]
  rw [w64 (by omega) (by omega)]
  rw [← Bool.or_assoc]
  generalize (m || (c.Rules.take k).any (could a b (bs.map SG) at_)) = q
  cases q <;> cases cnt a b c.Rules[k].Hours at_ <;> cases w <;> rfl) (by simp [F28_dialplan_Waits_l1])
 simpa using this
theorem waits_loop (hp : p.Hours = [a, b]) (ha : HGood a) (ka : a.Key = kHa) (hb : HGood b) (kb : b.Key = kHb) (l : List T_api_Context) (hl : l.length ≤ 3) (hg : ∀ c ∈ l, CGood c) (y : List T_api_Context × Int) (hy : y.1 = l) {bs : List Nat} (h1 : ∀ b ∈ bs, b < 12) (h2 : bs.length ≤ 20) {at_ : Int} (t1 : 0 ≤ at_) (t2 : at_ ≤ 1000000000) :
  loopO (fun s : Bool × Bool × Int => F28_dialplan_Waits_l0 p (bs.map SG) at_ y s.1 s.2.1 s.2.2) (false, false, 0) = some (l.any (fun c => c.Rules.any (fits a b (bs.map SG) at_)), l.any (fun c => c.Rules.any (could a b (bs.map SG) at_))) := by
 have := loop_for (N := l.length) (step := fun s : Bool × Bool × Int => F28_dialplan_Waits_l0 p (bs.map SG) at_ y s.1 s.2.1 s.2.2) (fun k => ((l.take k).any (fun c => c.Rules.any (fits a b (bs.map SG) at_)), (l.take k).any (fun c => c.Rules.any (could a b (bs.map SG) at_)), (k : Int)))
  (l.any (fun c => c.Rules.any (fits a b (bs.map SG) at_)), l.any (fun c => c.Rules.any (could a b (bs.map SG) at_))) (fun k hk => by
  have hd : (decide (((k : Nat) : Int) < (l.length : Int))) = true := by simp; exact hk
  obtain ⟨d, d1, d2, d3, d4⟩ := decides_is hp ha ka hb kb (hg _ (List.getElem_mem hk)) h1 (by omega) t1 t2
  have hm := fun m => more_loop hp ha ka hb kb (hg _ (List.getElem_mem hk)) h1 h2 t1 t2 m
  have hdd : decide (d ≥ 0) = l[k].Rules.any (fits a b (bs.map SG) at_) := by
   have : decide (d ≥ 0) = !(decide (d < 0)) := by
    by_cases h : d < 0
    ·simp [h]
    ·simp [h]; omega
   rw [this, d4, Bool.not_not]
  rw [List.take_succ_eq_append_getElem hk, List.any_append, List.any_append, List.any_cons, List.any_nil, Bool.or_false, List.any_cons, List.any_nil, Bool.or_false]
  simp only [F28_dialplan_Waits_l0, hy, hd, cond_true, idx_at hk, Option.bind_some, d1, hdd, hm]
  rw [w64 (by omega) (by omega)]
  generalize (l.take k).any (fun c => c.Rules.any (fits a b (bs.map SG) at_)) = q1
  generalize (l.take k).any (fun c => c.Rules.any (could a b (bs.map SG) at_)) = q2
  cases q1 <;> rfl) (by simp [F28_dialplan_Waits_l0, hy])
 simpa using this
end
theorem dialled2_is (s0 : T_flashmake_Stream) (k : Int) (hs : SOk s0 k) (hk : k ≤ 1000) : ∃ s' d bs, F26_flashmake_Stream_RightDialled s0 = some (s', d) ∧ DGood d bs ∧ SOk s' (k + 7) := by
 obtain ⟨m, e1, m1, m2⟩ := range_is s0 1 6 _ hs (by omega) (by omega) (by omega) (by omega)
 obtain ⟨e, h1, ⟨bs, h2, h3, h4, h5⟩, h6⟩ := loopO_ind (step := fun s : List UInt8 × Int × T_flashmake_Stream => F26_flashmake_Stream_RightDialled_l0 (⟨s0.L, s0.at_ + 1⟩, m) s.1 s.2.1 s.2.2)
  (fun q => 0 ≤ q.2.1 ∧ q.2.1 ≤ m ∧ (∃ bs : List Nat, q.1 = bs.map SG ∧ (bs.length : Int) = q.2.1 ∧ ∀ b ∈ bs, b < 12) ∧ SOk q.2.2 (k + 1 + q.2.1))
  (fun e => (∃ bs : List Nat, e.1 = bs.map SG ∧ 1 ≤ bs.length ∧ bs.length ≤ 6 ∧ ∀ b ∈ bs, b < 12) ∧ SOk e.2 (k + 7)) (fun q => (6 - q.2.1).toNat) (fun q hq => by
   obtain ⟨l, n, s⟩ := q
   obtain ⟨q0, q1, ⟨bs, rfl, q2, q3⟩, q4⟩ := hq
   simp only [] at q0 q1 q2 q3 q4
   simp only [F26_flashmake_Stream_RightDialled_l0]
   by_cases hlt : n < m
   ·obtain ⟨r, f1, r1⟩ := some_in s [[49], [50], [50], [51], [57], [48], [42], [35]] _ q4 (by omega) (by simp) (by simp)
    obtain ⟨b, hb, rfl⟩ : ∃ b, b < 12 ∧ r = [SG b] := by
     simp only [List.mem_cons, List.not_mem_nil, or_false] at r1
     rcases r1 with rfl | rfl | rfl | rfl | rfl | rfl | rfl | rfl
     ·exact ⟨3, by omega, rfl⟩
     ·exact ⟨4, by omega, rfl⟩
     ·exact ⟨4, by omega, rfl⟩
     ·exact ⟨5, by omega, rfl⟩
     ·exact ⟨11, by omega, rfl⟩
     ·exact ⟨2, by omega, rfl⟩
     ·exact ⟨1, by omega, rfl⟩
     ·exact ⟨0, by omega, rfl⟩
    have hd : (decide (n < m)) = true := by simpa using hlt
    refine .inr ⟨((bs ++ [b]).map SG, n + 1, ⟨s.L, s.at_ + 1⟩), ?_, ⟨by (try simp only []); omega, by (try simp only []); omega, ⟨bs ++ [b], rfl, by simp; omega, fun x hx => ?_⟩, q4.one.up (by (try simp only []); omega)⟩, by (try simp only []); omega⟩
    ·rw [hd]; simp only [cond_true, f1, Option.bind_some]
     rw [sadd_of (by simp; omega), w64 (by omega) (by omega)]; simp
    ·rcases List.mem_append.1 hx with hx | hx
     ·exact q3 x hx
     ·simp at hx; omega
   ·exact .inl ⟨(bs.map SG, s), by simp [hlt], ⟨bs, rfl, by omega, by omega, q3⟩, q4.up (by omega)⟩) ([], 0, ⟨s0.L, s0.at_ + 1⟩) ⟨by simp, by simp; omega, ⟨[], rfl, by simp, by simp⟩, hs.one.up (by (try simp only []); omega)⟩
 obtain ⟨l, s⟩ := e
 simp only [] at h2 h6
 subst h2
 refine ⟨s, _, bs, ?_, ⟨rfl, h3, h4, h5⟩, h6⟩
 simp only [F26_flashmake_Stream_RightDialled, bnd, e1, Option.bind_some, h1]

/-- THE LAW. -/
theorem law_WaitsAreTrue (l : List Int) (hl : l.length ≤ 4611686018427387904) : F5_flashkeep2_WaitsAreTrue l = some true := by
 have s0 : SOk ⟨l, 0⟩ 0 := ⟨hl, by (try simp only []); omega, by (try simp only []); omega⟩
 obtain ⟨s1, p, a, b, R0, R1, R2, I0, I1, e1, hp, x1⟩ := plan_is ⟨l, 0⟩ 4 (by omega) (by omega) 0 s0 (by omega)
 obtain ⟨s2, d, bs, e2, ⟨rfl, d1, d2, d3⟩, x2⟩ := dialled2_is s1 _ x1 (by omega)
 obtain ⟨at_, e3, a1⟩ := pick_in s2 [0, 32400000] _ x2 (by omega) (by simp) (by simp)
 have ha : 0 ≤ at_ ∧ at_ ≤ 32400000 := by simp at a1; omega
 obtain ⟨L, l1, l2, _, l3⟩ := ask_is hp
 have hh : p.Hours = [a, b] := by rw [hp.p]
 have hw := waits_loop hh hp.ha hp.ka hp.hb hp.kb L l2 (fun c hc => (l1 c hc).1) (L, 0) rfl d3 (by omega) ha.1 (by omega)
 have ew : F28_dialplan_Waits p [99, 97] (bs.map SG) at_ = some (L.any (fun c => c.Rules.any (fits a b (bs.map SG) at_)), L.any (fun c => c.Rules.any (could a b (bs.map SG) at_)), 0) := by
  have := l3 bs at_ d3 d1 (by omega) ha.1 (by omega)
  unfold kca at this
  simp only [F28_dialplan_Waits, this, Option.bind_some, bne_self_eq_false, cond_false, hw]
 have dec : ∀ cs : List Nat, (∀ b ∈ cs, b < 12) → 1 ≤ cs.length → cs.length ≤ 20 → ∃ h f, F29_dialplan_Decide p [99, 97] (cs.map SG) at_ = some (h, f) ∧ (f != 8) = L.any (fun c => c.Rules.any (fits a b (cs.map SG) at_)) := by
  intro cs c1 c2 c3
  obtain ⟨e, f1, f2⟩ := decide_loop hh hp.ha hp.ka hp.hb hp.kb L l2 (fun c hc => (l1 c hc).1) (L, 0) rfl c1 c3 ha.1 (by omega) ⟨[], 0, 0, [], []⟩
  have := l3 cs at_ c1 c2 (by omega) ha.1 (by omega)
  unfold kca at this
  simp only [F29_dialplan_Decide, this, Option.bind_some, bne_self_eq_false, cond_false, f1, lret]
  match e, f2 with
  | .inl _, f2 => exact ⟨_, _, rfl, by rw [f2]; rfl⟩
  | .inr r, f2 => exact ⟨r.1, r.2, rfl, by rw [f2.2]; simpa using f2.1⟩
 obtain ⟨h, f, ed, fd⟩ := dec bs d3 d1 (by omega)
 obtain ⟨e, g1, g2⟩ := loopO_ind (step := fun s : Int × T_flashmake_Stream => F5_flashkeep2_WaitsAreTrue_l0 (s1, p) (s2, bs.map SG) (⟨s2.L, s2.at_ + 1⟩, at_) (L.any (fun c => c.Rules.any (fits a b (bs.map SG) at_)), L.any (fun c => c.Rules.any (could a b (bs.map SG) at_)), 0) s.1 s.2)
  (fun q => 0 ≤ q.1 ∧ q.1 ≤ 4 ∧ SOk q.2 (300 + 7 * q.1)) (fun e => e = .inl ()) (fun q => (4 - q.1).toNat) (fun q hq => by
   obtain ⟨n, s⟩ := q
   obtain ⟨q0, q1, q2⟩ := hq
   simp only [] at q0 q1 q2
   simp only [F5_flashkeep2_WaitsAreTrue_l0]
   by_cases hlt : n < 4
   ·obtain ⟨s', y, cs, f1, ⟨rfl, c1, c2, c3⟩, f2⟩ := dialled2_is s _ q2 (by omega)
    obtain ⟨h', f', k1, k2⟩ := dec (bs ++ cs) (fun x hx => by rcases List.mem_append.1 hx with h | h; exact d3 x h; exact c3 x h) (by simp; omega) (by simp; omega)
    rw [List.map_append] at k1 k2
    simp only [hlt, decide_true, cond_true, f1, Option.bind_some]
    rw [sadd_of (by simp; omega)]
    simp only [Option.bind_some, k1, k2]
    have himp : L.any (fun c => c.Rules.any (fits a b (bs.map SG ++ cs.map SG) at_)) = true → L.any (fun c => c.Rules.any (could a b (bs.map SG) at_)) = true := by
     intro hany
     obtain ⟨c, hc, hr⟩ := List.any_eq_true.1 hany
     obtain ⟨r, hr, hf⟩ := List.any_eq_true.1 hr
     refine List.any_eq_true.2 ⟨c, hc, List.any_eq_true.2 ⟨r, hr, ?_⟩⟩
     rw [← List.map_append] at hf
     exact could_of ((l1 c hc).1.2.1 r hr) d3 (by omega) c3 (by omega) (by rintro rfl; simp at c1) hf
    have hz : (L.any (fun c => c.Rules.any (fits a b (bs.map SG ++ cs.map SG) at_)) && !(L.any (fun c => c.Rules.any (could a b (bs.map SG) at_)))) = false := by
     cases hq : L.any (fun c => c.Rules.any (fits a b (bs.map SG ++ cs.map SG) at_))
     ·rfl
     ·rw [himp hq]; rfl
    simp only [hz, cond_false]
    rw [w64 (by omega) (by omega)]
    exact .inr ⟨_, rfl, ⟨by (try simp only []); omega, by (try simp only []); omega, f2.up (by (try simp only []); omega)⟩, by (try simp only []); omega⟩
   ·exact .inl ⟨.inl (), by simp [hlt], rfl⟩) (0, ⟨s2.L, s2.at_ + 1⟩) ⟨by simp, by simp, x2.one.up (by (try simp only []); omega)⟩
 subst g2
 simp only [F5_flashkeep2_WaitsAreTrue, e1, Option.bind_some, e2, e3, ew, ed, fd, bne_self_eq_false, Bool.false_or, beq_self_eq_true, Bool.not_true, cond_false, g1, lret]
 rfl
end Go.Proofs.YtagbgmkocjfanaaGreatDoor
