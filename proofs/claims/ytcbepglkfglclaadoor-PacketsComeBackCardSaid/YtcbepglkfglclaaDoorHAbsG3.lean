/-
  Function values: rules.
-/
import Derived.Test.YtcbepglkfglclaaDoorHAbsG2
namespace Go.Abs

mutual
theorem IV.retag_idem : ∀ v : IV, (v.retag 1).retag 1 = v.retag 1
  | .bool _ => rfl
  | .int _ _ => rfl
  | .str _ => rfl
  | .nilS => rfl
  | .emp => rfl
  | .lit t cs n => by simp [IV.retag, IV.retags_idem cs]
  | .lp t cs => by simp [IV.retag, IV.retags_idem cs]
  | .nilP => rfl
  | .gp _ _ => rfl
  | .nilM => rfl
  | .nilF => rfl
  | .clo f cs => by simp [IV.retag, IV.retags_idem cs]
  | .nilI => rfl
theorem IV.retags_idem : ∀ c : List IV, IV.retags 1 (IV.retags 1 c) = IV.retags 1 c
  | [] => rfl
  | v :: c => by simp [IV.retags, IV.retag_idem v, IV.retags_idem c]
end

/-- What a closure holds. -/
inductive CapP (nt : Nat) (σ : Sl) : List Opd → List AR → Prop
  | nil : CapP nt σ [] []
  | cons {x : Opd} {a : AC} {r : AR} {l : List Opd} {cs : List AR} (h : evσ nt σ x = .v (.c a)) (c : capOf a = some r) (t : CapP nt σ l cs) : CapP nt σ (x :: l) (r :: cs)
/-- What a closure holds, as it is lent. -/
inductive LendP (hp : Heap) : List AR → List IV → Prop
  | nil : LendP hp [] []
  | ptr {b g : Nat} {cs : List IV} {l : List AR} {vs : List IV} (hb : hp.get b = some (.cells g (cs.map I))) (t : LendP hp l vs) : LendP hp (.ptr b g 0 :: l) (.lp 1 (IV.retags 1 cs) :: vs)
  | iv {v : IV} {l : List AR} {vs : List IV} (t : LendP hp l vs) : LendP hp (.i v :: l) (v.retag 1 :: vs)

section
variable {nt : Nat} {σ : Sl} {hp : Heap} {ct d : Nat} {G : Nat → List IV} {R : Run} {Q : Sl → Heap → Nat → Prop} {l : List Ins}

theorem CapP.ev {caps : List Opd} {cs : List AR} (h : CapP nt σ caps cs) : traverse (fun o => match evσ nt σ o with | .v (.c x) => capOf x | _ => none) caps = some cs := by
  induction h with
  | nil => rfl
  | cons h c _ ih => rw [traverse_cons, h, ih]; simp only [c]
theorem k_mkfn {f : Nat} {caps : List Opd} {cs : List AR} (hc : CapP nt σ caps cs) (n : wpL G R nt l Q (upd σ d (.v (.c (mkClo f cs)))) hp ct) : wpL G R nt (.op (some d) none (.mkfn f caps) :: l) Q σ hp ct := by
  refine k_op (v := .v (.c (mkClo f cs))) (hp' := hp) (ct' := ct) ?_ n
  have h0 : traverse (fun o => match ev (mkS nt σ hp ct) o with | .v (.c x) => capOf x | _ => none) caps = some cs := by
    have : ∀ o, ev (mkS nt σ hp ct) o = evσ nt σ o := fun o => ev_mk o
    simp only [this]
    exact hc.ev
  have h1 : ∀ q : Option (List AR), q = some cs → (match q with | some cs => some (AV.v (.c (mkClo f cs)), hp, ct) | none => none) = some (AV.v (.c (mkClo f cs)), hp, ct) := by rintro _ rfl; rfl
  exact h1 _ h0
theorem lend_caps {cs : List AR} {vs : List IV} (h : LendP hp cs vs) : traverse (toR true hp []) cs = some (vs.map AR.i) := by
  induction h with
  | nil => rfl
  | ptr hb _ ih =>
    rename_i b g cs l vs _
    have hr : rd (fun b => (idxOf [] b).isNone) hp 1 rdDepth (.r (.ptr b g 0)) = some (.lp 1 cs) := by
      simp only [rdDepth, rd, row_of hb, List.drop_zero, rd_inls, idxOf, Option.isNone_none, if_true]
    have h2 : toR true hp [] (.ptr b g 0) = some (.i ((IV.lp 1 cs).retag 1)) := by
      show (match rd (fun b => (idxOf [] b).isNone) hp 1 rdDepth (.r (.ptr b g 0)) with | some v => some (AR.i (v.retag 1)) | none => none) = _
      rw [hr]
    rw [traverse_cons, ih, h2]
    rfl
  | iv _ ih => rw [traverse_cons, ih]; rfl
theorem inlR_all (vs : List IV) : traverse inlR (vs.map AR.i) = some vs := by
  induction vs with
  | nil => rfl
  | cons v vs ih => rw [List.map_cons, traverse_cons, ih]; rfl
theorem lend_clo {f : Nat} {cs : List AR} {vs : List IV} (h : LendP hp cs vs) : to1 true hp [] (.c (mkClo f cs)) = some (.c (I (.clo f vs))) := by
  have key : toC true hp [] (.clo f cs) = some (I (.clo f vs)) := by
    simp only [toC, lend_caps h, Option.map_some, mkClo, inlR_all]
  unfold mkClo
  cases hq : traverse inlR cs with
  | none => simp only [to1, key, Option.map_some]
  | some ws =>
    have e : ∀ {cs : List AR} {ws vs : List IV}, traverse inlR cs = some ws → LendP hp cs vs → vs = IV.retags 1 ws := by
      intro cs ws vs h1 h2
      induction h2 generalizing ws with
      | nil => simp [traverse] at h1; subst h1; rfl
      | ptr hb _ ih => simp [traverse, inlR] at h1
      | iv _ ih =>
        rw [traverse_cons] at h1
        simp only [inlR] at h1
        split at h1
        · simp at h1
        · rename_i bs hbs
          have h1 := Option.some.inj h1
          subst h1
          rw [ih hbs]; rfl
    rw [e hq h]
    rfl
theorem k_callv {dd : Option Nat} {f : Nat} {x : Opd} {args : List Opd} {caps : List IV} {as as' : List A1} {fr : Bool} {P : List A1 → Prop} (hx : evσ nt σ x = .v (.c (I (.clo f caps)))) (ha : ArgsP nt σ hp [] args as as') (hc : pc R f (as' ++ (IV.retags 1 caps).map fun v => .c (I v)) fr P)
    (hl : fr = true ∨ (as.any fun a => a.cells.any (lentC [])) = false) (n : ∀ vs, P vs → wpL G R nt l Q (updO σ dd (resV vs)) hp ct) :
    wpL G R nt (.op dd none (.callv x args { give := [], ad := [], pure := true }) :: l) Q σ hp ct := by
  have hcaps : ∀ caps : List IV, traverse (to1 true hp []) (caps.map fun v => A1.c (I v)) = some ((IV.retags 1 caps).map fun v => .c (I v)) := by
    intro caps
    induction caps with
    | nil => rfl
    | cons v caps ih => rw [List.map_cons, traverse_cons, ih]; rfl
  have htr : ∀ {a b c d : List A1}, traverse (to1 true hp []) a = some c → traverse (to1 true hp []) b = some d → traverse (to1 true hp []) (a ++ b) = some (c ++ d) := by
    intro a b c d h1 h2
    induction a generalizing c with
    | nil => simp [traverse] at h1; subst h1; exact h2
    | cons x a ih =>
      rw [traverse_cons] at h1
      split at h1
      · simp at h1
      · rename_i y hy
        split at h1
        · simp at h1
        · rename_i ys hys
          have h1 := Option.some.inj h1
          subst h1
          rw [List.cons_append, traverse_cons, hy, ih hys]; rfl
  have hlent : ((as ++ caps.map fun v => A1.c (I v)).any fun a => a.cells.any (lentC [])) = (as.any fun a => a.cells.any (lentC [])) := by
    rw [List.any_append]
    have : ((caps.map fun v => A1.c (I v)).any fun a => a.cells.any (lentC [])) = false := by
      rw [List.any_eq_false]; intro a ha; simp at ha; obtain ⟨v, _, rfl⟩ := ha; simp [A1.cells, lentC, lentR]
    rw [this, Bool.or_false]
  obtain ⟨vs, h1, h2⟩ := hc (as.any fun a => a.cells.any (lentC [])) (fun h => by rcases hl with hl | hl; exact hl; rw [hl] at h; simp at h)
  refine k_op (v := resV vs) (hp' := hp) (ct' := ct) ?_ (n vs h2)
  simp only [opK, evals_mk, ha.ev.1, ev_mk, hx, doCall, if_true, mkS_hp, mkS_ct]
  rw [htr ha.ev.2 (hcaps caps)]
  simp only [hlent]
  unfold pureCall at h1
  split at h1
  · rename_i rs h e
    rw [e]; simp only [h1]
  · simp at h1
/-- A pointer that is lent. -/
theorem ep_lp (t : Nat) (cs : List IV) : ep [] G hp (I (.lp t cs)) (cs.map I) := ⟨⟨[], by simp [lookAt]⟩, .inr ⟨_, rfl⟩⟩

/-- A cell that is laid by: an owned slice, or what is told in place. -/
def FzC (hp : Heap) (a : AC) (v : IV) (bs P : List Nat) : Prop := refC true a = bs ∧ (∀ b ∈ bs, b ∈ P) ∧ (∀ b ∈ bs, ∃ (g : Nat) (cs : List IV), hp.get b = some (.cells g (cs.map I))) ∧ ∀ q n, (∀ b ∈ bs, q b = true) → rd q hp 0 (n + 1) a = some v
theorem FzC.iv (v : IV) : FzC hp (I v) v [] [] := ⟨rfl, by simp, by simp, fun _ _ _ => rd_inl _ _ _ _ _⟩
theorem _root_.Go.Abs.so.fz {α : Type} {E : Rep α} {P : List Nat} {f : Bool} {a : AC} {xs : List α} (hs : so P E f hp a xs) : ∃ v bs, sv E f v xs ∧ FzC hp a v bs P := by
  rcases hs with ⟨rfl, rfl⟩ | ⟨rfl, rfl⟩ | ⟨b, g, off, cs, c, hb, rfl, h4, h5, h6, h7⟩
  · exact ⟨.nilS, [], .inl ⟨rfl, rfl⟩, rfl, by simp, by simp, fun _ _ _ => rd_inl _ _ _ _ _⟩
  · exact ⟨.emp, [], .inr (.inl ⟨rfl, rfl⟩), rfl, by simp, by simp, fun _ _ _ => rd_inl _ _ _ _ _⟩
  · refine ⟨.lit 0 c xs.length, [b], .inr (.inr ⟨0, c, rfl, h5, fun _ => rfl⟩), rfl, ?_, ?_, ?_⟩
    · intro x hx; simp at hx; subst hx; exact hb
    · intro x hx; simp at hx; subst hx; exact ⟨g, cs, (Heap.row_eq h4).1⟩
    · intro q n hq; exact rd_rows (hq b (by simp)) h4 h6 h7
inductive FzL (hp : Heap) : List AC → List IV → List Nat → List Nat → Prop
  | nil : FzL hp [] [] [] []
  | cons {a : AC} {v : IV} {bs P cs PP : List Nat} {l : List AC} {vs : List IV} (h : FzC hp a v bs P) (t : FzL hp l vs cs PP) : FzL hp (a :: l) (v :: vs) (bs ++ cs) (P ++ PP)
theorem FzL.refs {l : List AC} {vs : List IV} {bs PP : List Nat} (h : FzL hp l vs bs PP) : l.flatMap (refC true) = bs := by
  induction h with
  | nil => rfl
  | cons h _ ih => rw [List.flatMap_cons, h.1, ih]
theorem FzL.mem {l : List AC} {vs : List IV} {bs PP : List Nat} (h : FzL hp l vs bs PP) : (∀ b ∈ bs, b ∈ PP) ∧ ∀ b ∈ bs, ∃ (g : Nat) (cs : List IV), hp.get b = some (.cells g (cs.map I)) := by
  induction h with
  | nil => simp
  | cons h _ ih =>
    refine ⟨fun b hb => ?_, fun b hb => ?_⟩
    · rcases List.mem_append.1 hb with hb | hb
      · exact List.mem_append_left _ (h.2.1 b hb)
      · exact List.mem_append_right _ (ih.1 b hb)
    · rcases List.mem_append.1 hb with hb | hb
      · exact h.2.2.1 b hb
      · exact ih.2 b hb
theorem FzL.rd {l : List AC} {vs : List IV} {bs PP : List Nat} (h : FzL hp l vs bs PP) (q : Nat → Bool) (n : Nat) (hq : ∀ b ∈ bs, q b = true) : traverse (rd q hp 0 (n + 1)) l = some vs := by
  induction h with
  | nil => rfl
  | cons h _ ih => rw [traverse_cons, h.2.2.2 q n fun b hb => hq b (List.mem_append_left _ hb), ih fun b hb => hq b (List.mem_append_right _ hb)]
theorem FzL.deep {l : List AC} {vs : List IV} {bs PP : List Nat} (h : FzL hp l vs bs PP) (n : Nat) : refDeep hp (n + 1) bs = bs := by
  have : bs.flatMap (fun b => match hp.get b with | some (.cells _ cs) => cs.flatMap (refC true) | _ => []) = [] := by
    rw [List.flatMap_eq_nil_iff]
    intro b hb
    obtain ⟨g, cs, e⟩ := h.mem.2 b hb
    rw [e]
    show (cs.map I).flatMap (refC true) = []
    rw [List.flatMap_eq_nil_iff]; intro x hx'; simp at hx'; obtain ⟨v, _, rfl⟩ := hx'; rfl
  have h0 : ∀ m, refDeep hp m [] = [] := by intro m; induction m with | zero => rfl | succ m ih => simp [refDeep, ih]
  have h1 : ∀ q, q = [] → bs ++ refDeep hp n q = bs := by rintro _ rfl; rw [h0, List.append_nil]
  exact h1 _ this
theorem k_frzQ {t : Nat} {cells : List AC} {vs : List IV} {bs PP : List Nat} (hx : (mkS nt σ hp ct).get t = .v (.agg cells)) (hz : FzL hp cells vs bs PP) (hP : PP.all (fun b => decide (b < PB)) = true)
    (n : ∀ hp', Fr PP hp hp' → wpL G R nt l Q (upd σ t (.v (.agg (vs.map I)))) hp' ct) : wpL G R nt (.frz t :: l) Q σ hp ct := by
  have hbs : (refDeep hp 3 bs).filter (fun x => decide (x < PB)) = bs := by
    rw [hz.deep 2, List.filter_eq_self]
    intro b hb; exact List.all_eq_true.1 hP b (hz.mem.1 b hb)
  simp only [wpL]
  refine ⟨upd σ t (.v (.agg (vs.map I))), delAll hp bs, ct, ?_, n _ (fun q hq => ?_)⟩
  · have := hz.rd (fun b => bs.contains b) 5 (fun b hb => by simpa using hb)
    simp only [insI, hx, A1.cells, hz.refs, mkS_hp, hbs]
    rw [show rdDepth = 5 + 1 from rfl, this]
    exact congrArg some (set_mk t _ _)
  · rw [Heap.get_delAll, if_neg]; intro hin; exact hq (hz.mem.1 q hin)
theorem k_frzP {t b0 g : Nat} {cells : List AC} {vs : List IV} {bs PP : List Nat} (hx : (mkS nt σ hp ct).get t = .v (.c (.r (.ptr b0 g 0)))) (hb : hp.get b0 = some (.cells g cells)) (hz : FzL hp cells vs bs PP) (hP : (b0 :: PP).all (fun b => decide (b < PB)) = true)
    (n : ∀ hp', Fr (b0 :: PP) hp hp' → wpL G R nt l Q (upd σ t (V (.lp 0 vs))) hp' ct) : wpL G R nt (.frz t :: l) Q σ hp ct := by
  have hd : refDeep hp 3 [b0] = b0 :: bs := by
    have h1 : ∀ q, q = bs → [b0] ++ refDeep hp 2 q = b0 :: bs := by rintro _ rfl; rw [hz.deep 1]; rfl
    refine h1 _ ?_
    simp only [List.flatMap_cons, List.flatMap_nil, hb, List.append_nil, hz.refs]
  have hbs : (refDeep hp 3 [b0]).filter (fun x => decide (x < PB)) = b0 :: bs := by
    rw [hd, List.filter_eq_self]
    intro b hb
    refine List.all_eq_true.1 hP b ?_
    rcases List.mem_cons.1 hb with rfl | hb
    · exact List.mem_cons_self
    · exact List.mem_cons_of_mem _ (hz.mem.1 b hb)
  simp only [wpL]
  refine ⟨upd σ t (V (.lp 0 vs)), delAll hp (b0 :: bs), ct, ?_, n _ (fun q hq => ?_)⟩
  · have h1 := hz.rd (fun b => (b0 :: bs).contains b) 4 (fun b hb => by simp [hb])
    have h2 : rd (fun b => (b0 :: bs).contains b) hp 0 rdDepth (.r (.ptr b0 g 0)) = some (.lp 0 vs) := by
      have hc : (b0 :: bs).contains b0 = true := by simp
      simp only [rdDepth, rd, hc, if_true, row_of hb, List.drop_zero, h1]
    have h3 : traverse (rd (fun b => (b0 :: bs).contains b) hp 0 rdDepth) [.r (.ptr b0 g 0)] = some [.lp 0 vs] := by rw [traverse_cons, h2]; rfl
    simp only [insI, hx, A1.cells, List.flatMap_cons, List.flatMap_nil, refC, refR, List.append_nil, mkS_hp, hbs, h3]
    exact congrArg some (set_mk t _ _)
  · rw [Heap.get_delAll, if_neg]; intro hin; refine hq ?_
    rcases List.mem_cons.1 hin with rfl | hin
    · exact List.mem_cons_self
    · exact List.mem_cons_of_mem _ (hz.mem.1 q hin)
end
end Go.Abs
