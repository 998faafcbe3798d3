/-
  The abstract machine beside Go's model: one operation after the other (1): values, loads, stores.
-/
import Derived.Test.YtcbepglkfglclaaDoorHAbsC
import Derived.Deep.AppendSrc
import Derived.Laws.BytesString
import Derived.Laws.IdiomCopy
namespace Go.Abs
open Go.RowKit

/- The check of operands, constants, types. -/
def constIV : Value → IV → Bool
  | .bool a, .bool b => a == b
  | .int k n, .int k' m => k == k' && n == m
  | .string s, .str l => s.data.toList == l
  | .pointer none, .nilP => true
  | .slice none n c, .nilS => n == 0 && c == 0
  | .map none, .nilM => true
  | .nilFunc, .nilF => true
  | .nilIface, .nilI => true
  | _, _ => false

def constIVs : List Value → List IV → Bool
  | [], [] => true
  | v :: l, x :: m => constIV v x && constIVs l m
  | _, _ => false

def okOpd : Operand → Opd → Bool
  | .tmp n, .t m => n == m
  | .const (.agg cs), .ca l => constIVs cs.toList l
  | .const v, .c x => constIV v x
  | .global g, .c (.gp g' o) => g == g' && o == 0
  | .func f, .c (.clo f' l) => f == f' && l.isEmpty
  | _, _ => false

def aggD : TypeDesc → Bool
  | .struct _ | .array _ _ => true
  | _ => false

/-- The type's cells, and whether its values are aggregates. -/
def tyOk (P : Program) (t n : Nat) (agg : Bool) : Bool :=
  match P.info? t, P.underlying t with
  | some i, some d => i.size == n && aggD d == agg && (agg || n == 1)
  | _, _ => false

theorem constIV_sound {p : Nat → Nat → Prop} {h : Array Obj} {v : Value} {x : IV} (e : constIV v x = true) : VR p h x v := by
  unfold constIV at e
  split at e
  · simp at e; subst e; exact .bool _
  · simp at e; obtain ⟨rfl, rfl⟩ := e; exact .int _ _
  · simp at e; exact .str _ _ e
  · exact .nilP
  · simp at e; obtain ⟨rfl, rfl⟩ := e; exact .nilS
  · exact .nilM
  · exact .nilF
  · exact .nilI
  · simp at e

theorem constIVs_sound {p : Nat → Nat → Prop} {h : Array Obj} : ∀ {v : List Value} {x : List IV}, constIVs v x = true → All2 (VR p h) x v
  | [], [], _ => .nil
  | v :: l, x :: m, e => by
    simp [constIVs] at e
    exact .cons (constIV_sound e.1) (constIVs_sound e.2)
  | [], _ :: _, e => by simp [constIVs] at e
  | _ :: _, [], e => by simp [constIVs] at e

/-- The slots. -/
structure TR (X : Cx) (E : Env) (s : St) (a : Act) : Prop where
  defers : a.defers = []
  size : a.tmps.size = s.tm.length
  at_ : ∀ (i : Nat) (v : AV), s.tm[i]? = some v → AVR X E v (a.tmps.getD i undef)

theorem ev_sound {X : Cx} {E : Env} {s : St} {a : Act} (hT : TR X E s a) {x : Operand} {y : Opd} (e : okOpd x y = true) : AVR X E (ev s y) (a.eval x) := by
  unfold okOpd at e
  split at e
  · rename_i n m
    simp at e
    subst e
    show AVR X E (s.get n) (a.tmps.getD n undef)
    unfold St.get
    rw [List.getD_eq_getElem?_getD]
    cases h : s.tm[n]? with
    | none => trivial
    | some v => exact hT.at_ n v h
  · rename_i cs l
    refine ⟨cs.toList, by simp [Act.eval], (constIVs_sound (p := okc X E) (h := E.w.heap) e).map I fun _ _ r => r⟩
  · exact constIV_sound (p := okc X E) (h := E.w.heap) e
  · simp at e
    obtain ⟨rfl, rfl⟩ := e
    exact VR.gp _ _
  · simp at e
    obtain ⟨rfl, rfl⟩ := e
    exact VR.clo _ [] [] rfl (by simp)
  · simp at e

theorem bool_sound {X : Cx} {E : Env} {v : AV} {x : Value} {b : Bool} (r : AVR X E v x) (e : v.bool = some b) : x = .bool b := by
  unfold AV.bool at e
  split at e
  · simp at e; subst e; cases r; rfl
  · simp at e

theorem int_sound {X : Cx} {E : Env} {v : AV} {x : Value} {k : IntKind} {n : Int} (r : AVR X E v x) (e : v.int = some (k, n)) : x = .int k n := by
  unfold AV.int at e
  split at e
  · simp at e; obtain ⟨rfl, rfl⟩ := e; cases r; rfl
  · simp at e

theorem nat_sound {X : Cx} {E : Env} {v : AV} {x : Value} {n : Nat} (r : AVR X E v x) (e : v.nat = some n) : ∃ k, x = .int k (n : Int) := by
  unfold AV.nat at e
  split at e
  · rename_i k m hm
    split at e
    · simp at e; subst e
      refine ⟨k, ?_⟩
      rw [int_sound r hm]
      congr 1
      omega
    · simp at e
  · simp at e

theorem str_sound {X : Cx} {E : Env} {v : AV} {x : Value} {l : List UInt8} (r : AVR X E v x) (e : v.strv = some l) : ∃ s : ByteArray, x = .string s ∧ s.data.toList = l := by
  unfold AV.strv at e
  split at e
  · simp at e; subst e; cases r; exact ⟨_, rfl, by assumption⟩
  · simp at e

def valOf (agg : Bool) (vs : List Value) : Value := if agg then .agg vs.toArray else vs.headD undef

theorem mk1_sound {X : Cx} {E : Env} {agg : Bool} {cs : List AC} {a1 : A1} {vs : List Value} (r : All2 (CC X E) cs vs) (e : mk1 agg cs = some a1) : A1R X E a1 (valOf agg vs) := by
  unfold mk1 at e
  split at e
  · rename_i h
    simp at e; subst e
    exact ⟨vs, by simp [valOf, h], r⟩
  · rename_i h
    split at e
    · simp at e; subst e
      cases r with
      | cons h1 h2 =>
        cases h2
        have e : ∀ b : Value, valOf agg [b] = b := fun b => by simp [valOf, h]
        rw [e]
        exact h1
    · simp at e

theorem takeN_sound {n : Nat} {cs cs' : List AC} (e : takeN n cs = some cs') : n ≤ cs.length ∧ cs' = cs.take n := by
  unfold takeN at e
  split at e
  · simp at e; exact ⟨by assumption, e.symm⟩
  · simp at e

theorem cells_sound {X : Cx} {E : Env} {a1 : A1} {v : Value} (r : A1R X E a1 v) : All2 (CC X E) a1.cells v.cells.toList := by
  cases a1 with
  | c x =>
    have h1 := CC.one r
    have : v.cells = #[v] := by cases v <;> first | rfl | (simp [One, Value.oneCell'] at h1)
    rw [this]
    exact .cons r .nil
  | agg xs =>
    obtain ⟨vs, rfl, h⟩ := r
    simpa [Value.cells, A1.cells] using h

section
variable {P : Program} {X : Cx} {E : Env}

theorem tyOk_parts {t n : Nat} {agg : Bool} (h : tyOk P t n agg = true) : ∃ i d, P.info? t = some i ∧ P.underlying t = some d ∧ i.size = n ∧ aggD d = agg ∧ (agg = true ∨ n = 1) := by
  unfold tyOk at h
  split at h
  · rename_i i d hi hd
    simp at h
    exact ⟨i, d, hi, hd, h.1.1, h.1.2, h.2⟩
  · simp at h

theorem run_isAgg {t n : Nat} {agg : Bool} (h : tyOk P t n agg = true) (w : World) : (isAgg t).run P w = .ok agg w := by
  obtain ⟨i, d, hi, hd, _, h2, _⟩ := tyOk_parts h
  subst h2
  cases d <;> simp [isAgg, run_underlying hd, aggD]

theorem run_size {t n : Nat} {agg : Bool} (h : tyOk P t n agg = true) (w : World) : (sizeOf t).run P w = .ok n w := by
  obtain ⟨i, d, hi, hd, h1, _, _⟩ := tyOk_parts h
  subst h1
  simp [sizeOf, typeInfo, hi]

theorem run_part_cells {t n : Nat} {agg : Bool} (h : tyOk P t n agg = true) (w : World) (cs : Array Value) (off : Nat) (hl : n = 0 ∨ off + n ≤ cs.size) :
    (part t cs off).run P w = .ok (valOf agg ((cs.toList.drop off).take n)) w := by
  have h1 := run_isAgg h w
  have h2 := run_size h w
  obtain ⟨_, _, _, _, _, _, h3⟩ := tyOk_parts h
  cases agg with
  | true =>
    simp only [part, Sem.run_bind, h1, Result.andThen, if_true, h2, Sem.run_pure]
    have e : cs.extract off (off + n) = ((cs.toList.drop off).take n).toArray := by
      apply Array.ext'
      simp [List.take_drop]
    rw [e]
    rfl
  | false =>
    simp at h3
    subst h3
    have hlt : off < cs.size := by omega
    simp only [part, Sem.run_bind, h1, Result.andThen, Bool.false_eq_true, if_false]
    rw [Array.getElem?_eq_getElem hlt]
    simp only [Sem.run_pure]
    congr 1
    simp [valOf, List.drop_eq_getElem_cons (l := cs.toList) (i := off) (by simpa using hlt)]

theorem addr_add (c o j : Nat) : (⟨c, o, none⟩ : Addr).add j = ⟨c, o + j, none⟩ := by unfold Addr.add; split <;> simp_all

theorem run_loadVar_cells {t n : Nat} {agg : Bool} (h : tyOk P t n agg = true) (w : World) (a : Addr) (vs : List Value) (hl : vs.length = n)
    (hv : ∀ (j : Nat) (v : Value), vs[j]? = some v → w.cell? (a.add j) = some v) : (loadVar t a).run P w = .ok (valOf agg vs) w := by
  have h1 := run_isAgg h w
  have h2 := run_size h w
  obtain ⟨_, _, _, _, _, _, h3⟩ := tyOk_parts h
  have h4 := run_loadCells_list (P := P) w a vs hv
  cases agg with
  | true =>
    simp only [loadVar, Sem.run_bind, h1, Result.andThen, if_true, h2, ← hl, h4, Sem.run_pure]
    simp [valOf]
  | false =>
    simp at h3
    subst h3
    match vs, hl, hv with
    | [v], _, hv =>
      have h5 := hv 0 v rfl
      have : a.add 0 = a := by simp [Addr.add]
      rw [this] at h5
      simp only [loadVar, Sem.run_bind, h1, Result.andThen, Bool.false_eq_true, if_false, run_load, h5]
      simp [valOf]

theorem cell_of_heap {w : World} {c o : Nat} {cs : Array Value} {e : TypeId} {fr : Nat × Nat} (h : w.heap[c]? = some (.cells cs e fr)) : w.cell? ⟨c, o, none⟩ = cs[o]? := by
  simp [World.cell?, h]

/-- A slice over a block: its cells. -/
theorem sl_view (hW : WR X E) {b g off sz len : Nat} {x : Value} {cs : List AC} (r : RR X E (.sl b g off sz len) x) (hrow : E.h.row b g = some cs) (hl : off + len * sz ≤ cs.length) :
    ∃ a cap vs, x = .slice (some a) len cap ∧ len ≤ cap ∧ vs.length = len * sz ∧ All2 (CC X E) ((cs.drop off).take (len * sz)) vs ∧ ∀ (j : Nat) (v : Value), vs[j]? = some v → E.w.cell? (a.add j) = some v := by
  obtain ⟨hget, hcur⟩ := Heap.row_eq hrow
  obtain ⟨h1, h2, h3⟩ := r
  obtain ⟨h4, h5⟩ := h3 hcur
  obtain ⟨⟨cc, e, fr, r1, r2, r3, r4⟩, _, _⟩ := hW.blk b _ hget
  rcases h5 with ⟨cap, rfl, h6, cs', e', fr', h7, h8⟩ | ⟨rfl, a, rfl⟩
  · rw [r1] at h7
    have hcc : cc = cs' := by injection h7 with h7; injection h7
    subst hcc
    have hfit : off - (E.m b).2 + len * sz ≤ cc.size := by
      rw [← h8]
      have : len * sz ≤ cap * sz := Nat.mul_le_mul_right sz h6
      omega
    refine ⟨_, cap, (cc.toList.drop (off - (E.m b).2)).take (len * sz), rfl, h6, by simp; omega, ?_, ?_⟩
    · refine All2.of_get (by simp; omega) fun i y v hy hv => ?_
      rw [List.getElem?_take] at hy hv
      split at hy
      · rename_i hi
        rw [if_pos hi] at hv
        rw [List.getElem?_drop] at hy hv
        obtain ⟨v', q1, q2⟩ := r4 (off + i) y (by omega) hy
        have : off + i - (E.m b).2 = off - (E.m b).2 + i := by omega
        rw [this] at q1
        have h9 : cc[off - (E.m b).2 + i]? = some v := by simpa using hv
        rw [q1] at h9
        simp at h9
        subst h9
        exact q2
      · simp at hy
    · intro j v hv
      rw [List.getElem?_take] at hv
      split at hv
      · rw [List.getElem?_drop] at hv
        rw [addr_add, cell_of_heap r1]
        simpa using hv
      · simp at hv
  · refine ⟨a, 0, [], rfl, Nat.le_refl _, by simp, by simp; exact .nil, by simp⟩

theorem lit_view {p : Nat → Nat → Prop} {w : World} {t len : Nat} {cells : List IV} {x : Value} (r : VR p w.heap (.lit t cells len) x) :
    ∃ a cap vs, x = .slice (some a) len cap ∧ len ≤ cap ∧ All2 (VR p w.heap) cells vs ∧ ∀ (j : Nat) (v : Value), vs[j]? = some v → w.cell? (a.add j) = some v := by
  cases r with
  | lit _ _ _ c o cap cs e fr vs h1 h2 h3 h4 h5 h6 =>
    refine ⟨_, cap, vs, rfl, h6, All2.of_get h3 h5, fun j v hv => ?_⟩
    rw [addr_add, cell_of_heap h2]
    exact h4 j v hv
  | lit0 _ _ cap a h => exact ⟨a, cap, [], rfl, h, .nil, by simp⟩

theorem lp_view {p : Nat → Nat → Prop} {w : World} {t : Nat} {cells : List IV} {x : Value} (r : VR p w.heap (.lp t cells) x) :
    ∃ a vs, x = .pointer (some a) ∧ All2 (VR p w.heap) cells vs ∧ ∀ (j : Nat) (v : Value), vs[j]? = some v → w.cell? (a.add j) = some v := by
  cases r with
  | lp _ _ c o cs e fr vs h1 h2 h3 h4 h5 =>
    refine ⟨_, vs, rfl, All2.of_get h3 h5, fun j v hv => ?_⟩
    rw [addr_add, cell_of_heap h2]
    exact h4 j v hv
  | lp0 _ a => exact ⟨a, [], rfl, .nil, by simp⟩

/-- The tables of the program: what their cells hold, in every world of the activation. -/
def GOk (X : Cx) (G : Nat → List IV) : Prop :=
  ∀ g, G g ≠ [] → g < X.w0.heap.size ∧ ¬ X.A g ∧ ∃ cc e fr, X.w0.heap[g]? = some (.cells cc e fr) ∧ ∀ (i : Nat) (x : IV), (G g)[i]? = some x → ∃ v, cc[i]? = some v ∧ ∀ (p : Nat → Nat → Prop) (h : Array Obj), VR p h x v

theorem look_view (hW : WR X E) {G : Nat → List IV} (hG : GOk X G) {p : AC} {x : Value} {cells cs : List AC} {n : Nat} (r : CC X E p x) (e : lookAt G E.h p = some cells) (ht : takeN n cells = some cs) :
    ∃ a vs, x = .pointer (some a) ∧ vs.length = n ∧ All2 (CC X E) cs vs ∧ ∀ (j : Nat) (v : Value), vs[j]? = some v → E.w.cell? (a.add j) = some v := by
  obtain ⟨hn, rfl⟩ := takeN_sound ht
  unfold lookAt at e
  split at e
  · simp at e
    subst e
    obtain ⟨a, vs, rfl, h1, h2⟩ := lp_view (w := E.w) r
    have h3 := h1.map (S := CC X E) I fun _ _ r => r
    refine ⟨a, vs.take n, rfl, ?_, h3.take n, fun j v hv => ?_⟩
    · have := h3.length; simp at this hn ⊢; omega
    · rw [List.getElem?_take] at hv
      split at hv
      · exact h2 j v hv
      · simp at hv
  · rename_i g off
    simp at e
    subst e
    cases r
    by_cases hg : G g = []
    · have : n = 0 := by simp [hg] at hn; exact hn
      subst this
      exact ⟨_, [], rfl, rfl, by simp; exact .nil, by simp⟩
    · obtain ⟨h1, h2, cc, e, fr, h3, h4⟩ := hG g hg
      have h5 : E.w.heap[g]? = some (.cells cc e fr) := by rw [hW.still g h1 h2]; exact h3
      have hall : ∀ k, k < (G g).length → k < cc.size := by
        intro k hk
        obtain ⟨v, hv, _⟩ := h4 k (G g)[k] (by simp [hk])
        exact (Array.getElem?_eq_some_iff.1 hv).1
      simp at hn
      refine ⟨_, (cc.toList.drop off).take n, rfl, ?_, ?_, fun j v hv => ?_⟩
      · rcases Nat.eq_zero_or_pos n with h0 | h0
        · simp [h0]
        · have := hall (off + n - 1) (by omega)
          simp; omega
      · refine All2.of_get ?_ fun i y v hy hv => ?_
        · rcases Nat.eq_zero_or_pos n with h0 | h0
          · simp [h0]
          · have := hall (off + n - 1) (by omega)
            simp; omega
        · rw [List.getElem?_take] at hy hv
          split at hy
          · rename_i hi
            rw [if_pos hi] at hv
            rw [List.getElem?_drop, List.getElem?_map] at hy
            rw [List.getElem?_drop] at hv
            cases hq : (G g)[off + i]? with
            | none => simp [hq] at hy
            | some z =>
              simp [hq] at hy
              subst hy
              obtain ⟨v', q1, q2⟩ := h4 (off + i) z hq
              have h9 : cc[off + i]? = some v := by simpa using hv
              rw [q1] at h9
              simp at h9
              subst h9
              exact q2 _ _
          · simp at hy
      · rw [List.getElem?_take] at hv
        split at hv
        · rw [List.getElem?_drop] at hv
          rw [addr_add, cell_of_heap h5]
          simpa using hv
        · simp at hv
  · rename_i b g off
    split at e
    · rename_i cs0 hrow
      simp at e
      subst e
      obtain ⟨hget, hcur⟩ := Heap.row_eq hrow
      obtain ⟨h1, h2, h3⟩ := r
      obtain ⟨h4, rfl⟩ := h3 hcur
      obtain ⟨⟨cc, e, fr, r1, r2, r3, r4⟩, _, _⟩ := hW.blk b _ hget
      simp at hn
      have hall : ∀ k, off ≤ k → k < cs0.length → k - (E.m b).2 < cc.size := by
        intro k hk0 hk
        obtain ⟨v, hv, _⟩ := r4 k cs0[k] (by omega) (by simp [hk])
        exact (Array.getElem?_eq_some_iff.1 hv).1
      have hlen : ((cc.toList.drop (off - (E.m b).2)).take n).length = n := by
        rcases Nat.eq_zero_or_pos n with h0 | h0
        · simp [h0]
        · have := hall (off + n - 1) (by omega) (by omega)
          simp; omega
      refine ⟨_, (cc.toList.drop (off - (E.m b).2)).take n, rfl, hlen, ?_, fun j v hv => ?_⟩
      · refine All2.of_get (by rw [hlen]; simp; omega) fun i y v hy hv => ?_
        rw [List.getElem?_take] at hy hv
        split at hy
        · rename_i hi
          rw [if_pos hi] at hv
          rw [List.getElem?_drop] at hy hv
          obtain ⟨v', q1, q2⟩ := r4 (off + i) y (by omega) hy
          have : off + i - (E.m b).2 = off - (E.m b).2 + i := by omega
          rw [this] at q1
          have h9 : cc[off - (E.m b).2 + i]? = some v := by simpa using hv
          rw [q1] at h9
          simp at h9
          subst h9
          exact q2
        · simp at hy
      · rw [List.getElem?_take] at hv
        split at hv
        · rw [List.getElem?_drop] at hv
          rw [addr_add, cell_of_heap r1]
          simpa using hv
        · simp at hv
    · simp at e
  · simp at e

end
end Go.Abs
