/-
  Regions that draw their order, where reads and turns concern different places: rules.
-/
import Derived.Test.YtcbepglkfglclaaDoorHAbsG1
namespace Go.Abs

/-- What an operation has to do with memory: nothing that the order could tell; it turns blocks at these places; it reads blocks at these places. -/
inductive Tg where
  | n
  | t (S : List Nat)
  | r (S : List Nat)
def Tg.isT : Tg → Bool
  | .t _ => true
  | _ => false

/-- An operation that answers the same wherever the blocks at these places are the same. -/
def Dep (Rs : List Nat) (G : Nat → List IV) (R : Run) (s : St) (x : Ins) : Prop := match x with
  | .op d g k => ∀ h ct, (∀ b ∈ Rs, h.get b = s.hp.get b) → ∀ r, insV G R s d g k = some r → ∃ r', insV G R { s with hp := h, ct := ct } d g k = some r' ∧ r'.1 = r.1
  | _ => False

def wpT (G : Nat → List IV) (R : Run) (nt : Nat) : List (Ins × Tg) → (Sl → Heap → Nat → Prop) → Sl → Heap → Nat → Prop
  | [], Q, σ, hp, ct => Q σ hp ct
  | (x, tg) :: l, Q, σ, hp, ct => wpL G R nt [x] (fun σ' hp' ct' => (match tg with | .t S => Fr S hp hp' | _ => True) ∧ wpT G R nt l Q σ' hp' ct') σ hp ct ∧ (match tg with | .r S => Dep S G R (mkS nt σ hp ct) x | _ => True)

def fpsOf : List (Ins × Tg) → List (List Nat)
  | [] => []
  | (_, .t S) :: l => S :: fpsOf l
  | (_, _) :: l => fpsOf l

def drawTag (L : List (Ins × Tg)) (pre : List (List Nat)) : Bool :=
  let l := L.map Prod.fst
  (L.all fun p => p.1.isOp && (p.1.turns == p.2.isT)) && (List.range L.length).all fun i => match L[i]? with
    | some (_, .t _) => true
    | some (x, .n) => loOf l pre i == hiOf l pre i || x.memless
    | some (_, .r Rs) => (List.range (hiOf l pre i - loOf l pre i)).all fun t => match (fpsOf L)[loOf l pre i + t]? with
      | some S => S.all fun b => !Rs.contains b
      | none => false
    | none => false

def FrCh (fps : List (List Nat)) (hs : List (Heap × Nat)) : Prop := ∀ t S m m', fps[t]? = some S → hs[t]? = some m → hs[t + 1]? = some m' → Fr S m.1 m'.1

section
variable {G : Nat → List IV} {R : Run} {nt : Nat}

theorem wpT_trail : ∀ {L : List (Ins × Tg)} {σ : Sl} {hp : Heap} {ct : Nat} {Q : Sl → Heap → Nat → Prop}, (L.all fun p => p.1.isOp && (p.1.turns == p.2.isT)) = true → wpT G R nt L Q σ hp ct →
    ∃ ss hs, trail G R (L.map Prod.fst) (mkS nt σ hp ct) = some (ss, hs) ∧ FrCh (fpsOf L) hs ∧ (∀ (i : Nat) (x : Ins) (Rs : List Nat) (s : St), L[i]? = some (x, Tg.r Rs) → ss[i]? = some s → Dep Rs G R s x) ∧ ∃ σ' hp' ct', ss.getLast? = some (mkS nt σ' hp' ct') ∧ Q σ' hp' ct'
  | [], σ, hp, ct, Q, _, h => ⟨[mkS nt σ hp ct], [(hp, ct)], rfl, fun t S m m' h => by simp [fpsOf] at h, fun i x Rs s h => by simp at h, σ, hp, ct, rfl, h⟩
  | (x, tg) :: L, σ, hp, ct, Q, ha, h => by
    simp only [List.all_cons, Bool.and_eq_true, beq_iff_eq] at ha
    obtain ⟨⟨hop, htn⟩, ha⟩ := ha
    obtain ⟨h, hdep⟩ := h
    obtain ⟨σ1, hp1, ct1, e1, hfr, h⟩ := wpL_sound h
    obtain ⟨ss, hs, e2, c2, d2, σ', hp', ct', l2, q2⟩ := wpT_trail ha h
    have e1 : insI G R (mkS nt σ hp ct) x = some (mkS nt σ1 hp1 ct1) := by
      simp only [insL] at e1
      split at e1
      · rename_i s hs'; rw [hs']; exact e1
      · simp at e1
    have hall : ∀ y ∈ L.map Prod.fst, y.isOp = true := by
      intro y hy
      obtain ⟨p, hp, rfl⟩ := List.mem_map.1 hy
      exact (by simpa using List.all_eq_true.1 ha p hp : p.1.isOp = true ∧ _).1
    have C := Canon.of hall e2
    have h0 : hs[0]? = some (hp1, ct1) := by
      have := C.mem 0 _ (Nat.zero_le _) C.at0
      have hz : cntS (L.map Prod.fst) (ltS 0) = 0 := by simp [cntS, ltS]
      rw [hz] at this; exact this
    refine ⟨mkS nt σ hp ct :: ss, if x.turns then ((mkS nt σ hp ct).hp, (mkS nt σ hp ct).ct) :: hs else hs, ?_, ?_, ?_, σ', hp', ct', ?_, q2⟩
    · simp only [List.map_cons, trail, e1, e2]
    · cases tg with
      | t S =>
        simp only [Tg.isT] at htn
        rw [htn]
        simp only [fpsOf, if_true]
        intro t S' m m' h1 h2 h3
        cases t with
        | zero =>
          simp at h1 h2 h3
          subst h1; subst h2
          rw [h0] at h3
          have h3 := Option.some.inj h3
          subst h3
          exact hfr
        | succ t => exact c2 t S' m m' (by simpa using h1) (by simpa using h2) (by simpa using h3)
      | n => simp only [Tg.isT] at htn; rw [htn]; exact c2
      | r S => simp only [Tg.isT] at htn; rw [htn]; exact c2
    · intro i y Rs s h1 h2
      cases i with
      | zero => simp at h1 h2; obtain ⟨rfl, rfl⟩ := h1; subst h2; exact hdep
      | succ i => exact d2 i y Rs s (by simpa using h1) (by simpa using h2)
    · cases ss with
      | nil => simp at l2
      | cons a b => simpa using l2

theorem chain_get {fps : List (List Nat)} {hs : List (Heap × Nat)} (hc : FrCh fps hs) {Rs : List Nat} {a : Nat} : ∀ (d : Nat) {m m' : Heap × Nat}, (∀ t, t < d → ∃ S, fps[a + t]? = some S ∧ ∀ b ∈ Rs, b ∉ S) → hs[a]? = some m → hs[a + d]? = some m' → ∀ b ∈ Rs, m'.1.get b = m.1.get b
  | 0, m, m', _, h1, h2, b, _ => by rw [Nat.add_zero, h1] at h2; rw [Option.some.inj h2]
  | d + 1, m, m', hf, h1, h2, b, hb => by
    have hlt := (List.getElem?_eq_some_iff.1 h2).1
    obtain ⟨m1, hm1⟩ : ∃ m1, hs[a + d]? = some m1 := ⟨hs[a + d]'(by omega), by simp⟩
    have ih := chain_get hc d (fun t ht => hf t (by omega)) h1 hm1 b hb
    obtain ⟨S, hS, hn⟩ := hf d (by omega)
    rw [← ih]
    exact hc (a + d) S m1 m' hS hm1 h2 b (hn b hb)

theorem drawDyn_tag {L : List (Ins × Tg)} {pre : List (List Nat)} (hf : drawTag L pre = true) (hd : Draw (L.map Prod.fst) pre) {s : St} {ss : List St} {hs : List (Heap × Nat)} (ht : trail G R (L.map Prod.fst) s = some (ss, hs)) (hc : FrCh (fpsOf L) hs)
    (hdep : ∀ (i : Nat) (x : Ins) (Rs : List Nat) (s : St), L[i]? = some (x, Tg.r Rs) → ss[i]? = some s → Dep Rs G R s x) : drawDyn G R (L.map Prod.fst) pre ss hs = true := by
  simp only [drawTag, Bool.and_eq_true, List.all_eq_true, List.mem_range] at hf
  obtain ⟨hall, hf⟩ := hf
  have hop : ∀ y ∈ L.map Prod.fst, y.isOp = true := by
    intro y hy
    obtain ⟨p, hp, rfl⟩ := List.mem_map.1 hy
    exact (hall p hp).1
  have C := Canon.of hop ht
  have htot : ∀ c, c ≤ cntS (L.map Prod.fst) (ltS (L.map Prod.fst).length) → ∃ m, hs[c]? = some m := by
    intro c hc
    have hn : ss[(L.map Prod.fst).length]? = some (ss[(L.map Prod.fst).length]'(by rw [C.len]; omega)) := by simp [C.len]
    have := C.mem _ _ (Nat.le_refl _) hn
    have hlt := (List.getElem?_eq_some_iff.1 this).1
    exact ⟨hs[c]'(by omega), by simp⟩
  simp only [drawDyn, List.all_eq_true, List.mem_range]
  intro i hi
  have hi' : i < L.length := by simpa using hi
  have hfi := hf i hi'
  obtain ⟨p, hp⟩ : ∃ p, L[i]? = some p := ⟨L[i], by simp [hi']⟩
  obtain ⟨x, tg⟩ := p
  have hx : (L.map Prod.fst)[i]? = some x := by simp [hp]
  obtain ⟨s1, s2, h1, h2, h3⟩ := C.step i x hx
  have htn : x.turns = tg.isT := by
    have := (hall (x, tg) (List.mem_of_getElem? hp)).2
    simpa using this
  have hm1 := C.mem i s1 (by omega) h1
  have hlo : loOf (L.map Prod.fst) pre i ≤ cntS (L.map Prod.fst) (ltS i) := cntS_mono fun j hj hp => by
    have := hd.lt i j hp; simp [ltS, this]
  have hhi : cntS (L.map Prod.fst) (ltS i) ≤ hiOf (L.map Prod.fst) pre i := cntS_mono fun j hj hp => by
    simp [ltS] at hp
    cases hq : preHas pre j i with
    | false => rfl
    | true => have := hd.lt j i hq; omega
  have hhi2 : hiOf (L.map Prod.fst) pre i ≤ cntS (L.map Prod.fst) (ltS (L.map Prod.fst).length) := by
    unfold hiOf
    refine cntS_mono fun j hj _ => ?_
    unfold turnAt at hj
    split at hj
    · rename_i y hy
      have := (List.getElem?_eq_some_iff.1 hy).1
      simp only [ltS, decide_eq_true_eq]; exact this
    · simp at hj
  simp only [hx, h1, Bool.or_eq_true, beq_iff_eq, List.all_eq_true, List.mem_range]
  rw [hp] at hfi
  cases tg with
  | t S => exact .inl htn
  | n =>
    simp only [Bool.or_eq_true, beq_iff_eq] at hfi
    rcases hfi with h | h
    · exact .inr (.inl h)
    · refine .inr (.inr fun c hc => ?_)
      obtain ⟨d, g, k, rfl⟩ := hd.op i x hx
      obtain ⟨m, hm⟩ := htot (loOf (L.map Prod.fst) pre i + c) (by omega)
      rw [hm]
      simp only [insI] at h3
      split at h3
      · rename_i r hr
        obtain ⟨r', hr', he⟩ := insV_memless (s := s1) (s' := { s1 with hp := m.1, ct := m.2 }) rfl h hr
        simp only [stableAt, hr, hr', he, eqAV_refl]
      · simp at h3
  | r Rs =>
    simp only [List.all_eq_true, List.mem_range] at hfi
    refine .inr (.inr fun c hc' => ?_)
    obtain ⟨d, g, k, rfl⟩ := hd.op i x hx
    obtain ⟨m, hm⟩ := htot (loOf (L.map Prod.fst) pre i + c) (by omega)
    rw [hm]
    simp only [insI] at h3
    split at h3
    · rename_i r hr
      have hdp := hdep i _ Rs s1 hp h1
      have hS : ∀ t, loOf (L.map Prod.fst) pre i ≤ t → t < hiOf (L.map Prod.fst) pre i → ∃ S, (fpsOf L)[t]? = some S ∧ ∀ b ∈ Rs, b ∉ S := by
        intro t ht1 ht2
        have := hfi (t - loOf (L.map Prod.fst) pre i) (by omega)
        rw [show loOf (L.map Prod.fst) pre i + (t - loOf (L.map Prod.fst) pre i) = t by omega] at this
        split at this
        · rename_i S hS
          refine ⟨S, hS, fun b hb hin => ?_⟩
          have := List.all_eq_true.1 this b hin
          simp [hb] at this
        · simp at this
      have hag : ∀ b ∈ Rs, m.1.get b = s1.hp.get b := by
        intro b hb
        rcases Nat.le_total (cntS (L.map Prod.fst) (ltS i)) (loOf (L.map Prod.fst) pre i + c) with hle | hle
        · exact chain_get hc (Rs := Rs) (a := cntS (L.map Prod.fst) (ltS i)) (loOf (L.map Prod.fst) pre i + c - cntS (L.map Prod.fst) (ltS i)) (fun t ht => hS _ (by omega) (by omega)) hm1 (by rw [show cntS (L.map Prod.fst) (ltS i) + (loOf (L.map Prod.fst) pre i + c - cntS (L.map Prod.fst) (ltS i)) = loOf (L.map Prod.fst) pre i + c by omega]; exact hm) b hb
        · exact (chain_get hc (Rs := Rs) (a := loOf (L.map Prod.fst) pre i + c) (cntS (L.map Prod.fst) (ltS i) - (loOf (L.map Prod.fst) pre i + c)) (fun t ht => hS _ (by omega) (by omega)) hm (by rw [show loOf (L.map Prod.fst) pre i + c + (cntS (L.map Prod.fst) (ltS i) - (loOf (L.map Prod.fst) pre i + c)) = cntS (L.map Prod.fst) (ltS i) by omega]; exact hm1) b hb).symm
      obtain ⟨r', hr', he⟩ := hdp m.1 m.2 hag r hr
      simp only [stableAt, hr, hr', he, eqAV_refl]
    · simp at h3

variable {σ : Sl} {hp : Heap} {ct : Nat}
theorem e_regT {L : List (Ins × Tg)} {pre : List (List Nat)} {b : IR} {Q : Ex → Sl → Heap → Nat → Prop} (hd : drawStatic (L.map Prod.fst) pre = true) (hf : drawTag L pre = true) (h : wpT G R nt L (fun σ hp ct => wpE G R nt b σ hp ct Q) σ hp ct) : wpE G R nt (.seq (.regD (L.map Prod.fst) pre) b) σ hp ct Q := by
  refine wpE_seq ?_
  have hall : (L.all fun p => p.1.isOp && (p.1.turns == p.2.isT)) = true := by
    simp only [drawTag, Bool.and_eq_true] at hf; exact hf.1
  obtain ⟨ss, hs, e1, c1, d1, σ', hp', ct', l1, q1⟩ := wpT_trail hall h
  exact wpE_regD' e1 (drawDyn_tag hf (Draw.of hd) e1 c1 d1) l1 q1
theorem e_lastT {L : List (Ins × Tg)} {pre : List (List Nat)} {Q : Ex → Sl → Heap → Nat → Prop} (hd : drawStatic (L.map Prod.fst) pre = true) (hf : drawTag L pre = true) (h : wpT G R nt L (fun σ hp ct => Q .normal σ hp ct) σ hp ct) : wpE G R nt (.regD (L.map Prod.fst) pre) σ hp ct Q := by
  have hall : (L.all fun p => p.1.isOp && (p.1.turns == p.2.isT)) = true := by
    simp only [drawTag, Bool.and_eq_true] at hf; exact hf.1
  obtain ⟨ss, hs, e1, c1, d1, σ', hp', ct', l1, q1⟩ := wpT_trail hall h
  exact wpE_regD' e1 (drawDyn_tag hf (Draw.of hd) e1 c1 d1) l1 q1

variable {L : List (Ins × Tg)} {Q : Sl → Heap → Nat → Prop} {x : Ins}
theorem t_nil (h : Q σ hp ct) : wpT G R nt [] Q σ hp ct := h
theorem t_n (h : wpL G R nt [x] (fun σ' hp' ct' => wpT G R nt L Q σ' hp' ct') σ hp ct) : wpT G R nt ((x, .n) :: L) Q σ hp ct := ⟨wpL_mono (fun _ _ _ h => ⟨trivial, h⟩) h, trivial⟩
theorem t_t {S : List Nat} (h : wpL G R nt [x] (fun σ' hp' ct' => Fr S hp hp' ∧ wpT G R nt L Q σ' hp' ct') σ hp ct) : wpT G R nt ((x, .t S) :: L) Q σ hp ct := ⟨h, trivial⟩
theorem t_r {S : List Nat} (hd : Dep S G R (mkS nt σ hp ct) x) (h : wpL G R nt [x] (fun σ' hp' ct' => wpT G R nt L Q σ' hp' ct') σ hp ct) : wpT G R nt ((x, .r S) :: L) Q σ hp ct := ⟨wpL_mono (fun _ _ _ h => ⟨trivial, h⟩) h, hd⟩

theorem sa_iv {α : Type} {E : Rep α} {f : Bool} {a : AC} {xs : List α} (h : sa [] E f hp a xs) : ∃ v, a = I v ∧ sv E f v xs := by
  rcases h with ⟨v, rfl, h⟩ | ⟨rfl, rfl⟩ | ⟨rfl, rfl⟩ | ⟨b, g, off, cs, c, hb, _⟩
  · exact ⟨v, rfl, h⟩
  · exact ⟨.nilS, rfl, .inl ⟨rfl, rfl⟩⟩
  · exact ⟨.emp, rfl, .inr (.inl ⟨rfl, rfl⟩)⟩
  · simp at hb
/-- Where a value lies, if anywhere. -/
def lies (a : AC) (S : List Nat) : Prop := match a with
  | .r (.ptr b _ _) | .r (.sl b _ _ _ _) | .r (.map b _) => b ∈ S
  | .clo .. => False
  | _ => True
theorem sa.lies {α : Type} {P : List Nat} {E : Rep α} {f : Bool} {a : AC} {xs : List α} (h : sa P E f hp a xs) : lies a P := by
  rcases h with ⟨v, rfl, _⟩ | ⟨rfl, rfl⟩ | ⟨rfl, rfl⟩ | ⟨b, g, off, cs, c, hb, rfl, _⟩
  · trivial
  · trivial
  · trivial
  · exact hb
theorem ep.lies {P : List Nat} {a : AC} {cells : List AC} (h : ep P G hp a cells) : lies a P := by
  rcases h.2 with ⟨b, g, off, hb, rfl⟩ | ⟨v, rfl⟩
  · exact hb
  · trivial

theorem eo.lies {α : Type} {P : List Nat} {E : Rep α} {f : Bool} {a p : AC} {xs : List α} {n : Nat} (h : eo P E f hp a xs p n) : lies p P := by
  obtain ⟨b, g, off, cs, c, hb, _, rfl, _⟩ := h
  exact hb
/-- Reading operations depend on the block that they read. -/
theorem dep_op {S : List Nat} {d : Option Nat} {k : K} (hk : ∀ h c, (∀ b ∈ S, h.get b = hp.get b) → ∀ r, opK G R (mkS nt σ hp ct) (d.getD 0) k = some r → ∃ r', opK G R (mkS nt σ h c) (d.getD 0) k = some r' ∧ r'.1 = r.1) : Dep S G R (mkS nt σ hp ct) (.op d none k) := by
  intro h c hag r hr
  have e : insV G R (mkS nt σ hp ct) d none k = opK G R (mkS nt σ hp ct) (d.getD 0) k := rfl
  rw [e] at hr
  exact hk h c hag r hr
theorem row_ag {h : Heap} {b : Nat} (e : h.get b = hp.get b) (g : Nat) : h.row b g = hp.row b g ∧ h.cur b = hp.cur b := by simp [Heap.row, Heap.cur, e]
theorem dep_fadr {S : List Nat} {d : Option Nat} {o : Nat} {x : Opd} {a : AC} (hx : evσ nt σ x = .v (.c a)) (ha : lies a S) : Dep S G R (mkS nt σ hp ct) (.op d none (.fadr o x)) := dep_op fun h c hag r hr => by
  rw [x_fadr, hx] at hr ⊢
  cases a with
  | clo => exact ha.elim
  | r a => cases a with
    | ptr b g off => simp only [(row_ag (hag b ha) g).2] at hr ⊢; split at hr <;> simp at hr; subst hr; simp_all
    | i v => cases v <;> simp at hr ⊢ <;> (subst hr; rfl)
    | sl => simp at hr
    | map => simp at hr
theorem dep_nil {S : List Nat} {d : Option Nat} {x : Opd} {a : AC} (hx : evσ nt σ x = .v (.c a)) (ha : lies a S) : Dep S G R (mkS nt σ hp ct) (.op d none (.nilchk x)) := dep_op fun h c hag r hr => by
  rw [x_nilchk, hx] at hr ⊢
  cases a with
  | clo => exact ha.elim
  | r a => cases a with
    | ptr b g off => simp only [(row_ag (hag b ha) g).2] at hr ⊢; split at hr <;> simp at hr; subst hr; simp_all
    | i v => cases v <;> simp at hr ⊢ <;> (subst hr; rfl)
    | sl => simp at hr
    | map => simp at hr
theorem dep_load {S : List Nat} {d : Option Nat} {m : Nat} {agg : Bool} {x : Opd} {a : AC} (hx : evσ nt σ x = .v (.c a)) (ha : lies a S) : Dep S G R (mkS nt σ hp ct) (.op d none (.load m agg x)) := dep_op fun h c hag r hr => by
  have e : lookAt G h a = lookAt G hp a := by
    cases a with
    | clo => exact ha.elim
    | r a => cases a with
      | ptr b g off => simp only [lookAt, (row_ag (hag b ha) g).1]
      | i v => cases v <;> rfl
      | sl => rfl
      | map => rfl
  rw [x_load, hx] at hr ⊢
  simp only [e] at hr ⊢
  split at hr
  · rename_i cs hcs
    split at hr
    · rename_i cs' hcs'
      cases hq : mk1 agg cs' with
      | none => rw [hq] at hr; simp at hr
      | some v => rw [hq] at hr; simp at hr; subst hr; simp [hcs', hq]
    · simp at hr
  · simp at hr
theorem dep_len {S : List Nat} {d : Option Nat} {x : Opd} {a : AC} (hx : evσ nt σ x = .v (.c a)) (ha : lies a S) : Dep S G R (mkS nt σ hp ct) (.op d none (.len 1 x)) := dep_op fun h c hag r hr => by
  rw [x_len, hx] at hr ⊢
  cases a with
  | clo => exact ha.elim
  | r a => cases a with
    | sl b g off sz n => simp only [(row_ag (hag b ha) g).2] at hr ⊢; split at hr <;> simp at hr; subst hr; simp_all
    | i v => cases v <;> simp at hr ⊢ <;> (subst hr; rfl)
    | ptr => simp at hr
    | map => simp at hr
def iadrF (sz : Nat) (hp : Heap) (ct : Nat) (a : AC) (n : Option Nat) : Option (AV × Heap × Nat) := match a, n with
    | .r (.sl b g off sz' len), some i => if sz' = sz ∧ i < len ∧ hp.cur b = some g then some (.v (.c (.r (.ptr b g (off + i * sz)))), hp, ct) else none
    | .r (.i (.lit t cs len)), some i => if i < len ∧ cs.length = len * sz then some (V (.lp t ((cs.drop (i * sz)).take sz)), hp, ct) else none
    | _, _ => none
theorem dep_iadr {S : List Nat} {d : Option Nat} {sz : Nat} {x i : Opd} {a : AC} (hx : evσ nt σ x = .v (.c a)) (ha : lies a S) : Dep S G R (mkS nt σ hp ct) (.op d none (.iadr sz x i)) := dep_op fun h c hag r hr => by
  have e : ∀ (hp : Heap) (ct : Nat), opK G R (mkS nt σ hp ct) (d.getD 0) (.iadr sz x i) = iadrF sz hp ct a (evσ nt σ i).nat := by
    intro hp ct
    rw [x_iadr, hx]
    unfold iadrF
    generalize (evσ nt σ i).nat = n
    cases n <;> cases a with
    | clo => rfl
    | r a => cases a with
      | i v => cases v <;> rfl
      | _ => rfl
  rw [e] at hr ⊢
  generalize (evσ nt σ i).nat = n at hr ⊢
  unfold iadrF at hr ⊢
  split at hr
  · rename_i b g off sz' len n
    simp only [(row_ag (hag b ha) g).2]
    split at hr
    · rename_i hc; rw [if_pos hc]; have hr := Option.some.inj hr; subst hr; exact ⟨_, rfl, rfl⟩
    · simp at hr
  · split at hr
    · rename_i hc; rw [if_pos hc]; have hr := Option.some.inj hr; subst hr; exact ⟨_, rfl, rfl⟩
    · simp at hr
  · simp at hr
theorem dep_bsl {S : List Nat} {d : Option Nat} {sz len : Nat} {zero : List IV} {parts : List (Nat × Opd)} {ps : List (Nat × A1)} {vs : List IV} (hp1 : PartsP nt σ parts ps) (hv : fillS sz (repC len zero) ps = some (vs.map I)) : Dep S G R (mkS nt σ hp ct) (.op d none (.bsl sz len zero parts false)) := dep_op fun h c hag r hr => by
  rw [x_bsl, hp1.ev] at hr ⊢
  simp only [hv] at hr ⊢
  split at hr
  · rename_i hc; rw [if_pos hc]
    simp only [rd_inls, Bool.false_eq_true, if_false] at hr ⊢
    have hr := Option.some.inj hr; subst hr; exact ⟨_, rfl, rfl⟩
  · simp at hr
theorem dep_call {S : List Nat} {dd : Option Nat} {f : Nat} {args : List Opd} {as as' : List A1} (ha : ∀ h : Heap, (∀ b ∈ S, h.get b = hp.get b) → ArgsP nt σ h [] args as as') : Dep S G R (mkS nt σ hp ct) (.op dd none (.call f args { give := [], ad := [], pure := true })) := dep_op fun h c hag r hr => by
  have a1 := (ha hp fun _ _ => rfl).ev
  have a2 := (ha h hag).ev
  rw [x_call] at hr ⊢
  simp only [a1.1, a1.2] at hr
  simp only [a2.1, a2.2]
  split at hr
  · rename_i vs hv
    have hr := Option.some.inj hr
    subst hr
    exact ⟨_, rfl, rfl⟩
  · simp at hr
end
end Go.Abs
