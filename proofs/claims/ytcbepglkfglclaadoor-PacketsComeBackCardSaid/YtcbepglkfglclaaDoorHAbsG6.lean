/-
  Printed functions: maps whose keys and values are one plain cell.
-/
import Derived.Test.YtcbepglkfglclaaDoorHAbsG5
namespace Go.Abs

/-- Keys of a kind. -/
structure SK (κ : Type) where
  kt : Nat
  iv : κ → IV
  dec : DecidableEq κ
  eq : ∀ a b, eqCell (I (iv a)) (I (iv b)) = some (decide (a = b))
  plain : ∀ a, plainKey kt (V (iv a)) = some (.c (I (iv a)))
def SK.int (k : IntKind) : SK Int := ⟨0, .int k, inferInstance, fun a b => by simp only [eqCell, if_true]; rfl, fun a => rfl⟩
def SK.str : SK (List UInt8) := ⟨1, .str, inferInstance, fun a b => by simp only [eqCell]; congr 1; rw [Bool.eq_iff_iff]; simp, fun a => rfl⟩

/-- Maps as data. -/
def mget {κ β : Type} [DecidableEq κ] (m : List (κ × β)) (k : κ) : Option β := match m with
  | [] => none
  | (a, b) :: m => if a = k then some b else mget m k
def mput {κ β : Type} [DecidableEq κ] (m : List (κ × β)) (k : κ) (v : β) : List (κ × β) := match m with
  | [] => [(k, v)]
  | (a, b) :: m => if a = k then (k, v) :: m else (a, b) :: mput m k v

section
variable {κ β : Type} [D : DecidableEq κ] {K : SK κ} {iv : β → IV}
/-- The entries of a map. -/
def EntsOk (K : SK κ) (iv : β → IV) (es : List Ent) (m : List (κ × β)) : Prop := All2 (fun (e : Ent) (p : κ × β) => e.key = .c (I (K.iv p.1)) ∧ e.val = .c (I (iv p.2))) es m
theorem EntsOk.find {es : List Ent} {m : List (κ × β)} (h : EntsOk K iv es m) (k : κ) : findEnt (.c (I (K.iv k))) es = some ((mget m k).map fun v => .c (I (iv v))) := by
  induction h with
  | nil => rfl
  | cons r _ ih =>
    rename_i e p l m' _
    obtain ⟨a, b⟩ := p
    obtain ⟨h1, h2⟩ := r
    simp only [findEnt, h1, eqKey, K.eq]
    by_cases hk : k = a
    · subst hk; simp [mget, h2]
    · have hk' : ¬ a = k := fun q => hk q.symm
      simp only [hk, decide_false, mget, hk', if_false]
      exact ih
theorem EntsOk.set {es : List Ent} {m : List (κ × β)} (h : EntsOk K iv es m) (k : κ) (v : β) (hs : (mget m k).isSome = true) : EntsOk K iv (setEnt (.c (I (K.iv k))) (.c (I (iv v))) es) (mput m k v) := by
  induction h with
  | nil => simp [mget] at hs
  | cons r r2 ih =>
    rename_i e p l m'
    obtain ⟨a, b⟩ := p
    obtain ⟨h1, h2⟩ := r
    simp only [setEnt, h1, eqKey, K.eq]
    by_cases hk : k = a
    · subst hk; simp only [decide_true, mput, if_true]; exact .cons ⟨rfl, rfl⟩ r2
    · have hk' : ¬ a = k := fun q => hk q.symm
      simp only [hk, decide_false, mput, hk', if_false]
      exact .cons ⟨h1, h2⟩ (ih (by simpa [mget, hk'] using hs))
theorem mput_new {m : List (κ × β)} {k : κ} {v : β} (h : mget m k = none) : mput m k v = m ++ [(k, v)] := by
  induction m with
  | nil => rfl
  | cons p m ih =>
    obtain ⟨a, b⟩ := p
    simp only [mget] at h
    split at h
    · simp at h
    · rename_i hk; simp only [mput, hk, if_false, ih h, List.cons_append]

/-- A map of one's own. -/
def mp (P : List Nat) (K : SK κ) (iv : β → IV) (hp : Heap) (a : AC) (m : List (κ × β)) : Prop := ∃ b g es clk, b ∈ P ∧ a = .r (.map b g) ∧ hp.get b = some (.map g es clk) ∧ EntsOk K iv es m
omit D in
theorem mp.fr {P P' : List Nat} {hp hp' : Heap} {a : AC} {m : List (κ × β)} (h : mp P K iv hp a m) (k : Fr P' hp hp') (hd : P.all (fun b => !P'.contains b) = true) : mp P K iv hp' a m := by
  obtain ⟨b, g, es, clk, h1, h2, h3, h4⟩ := h
  have := List.all_eq_true.1 hd b h1
  exact ⟨b, g, es, clk, h1, h2, (k b (by simpa using this)).trans h3, h4⟩
omit D in
theorem mp.wide {P P' : List Nat} {hp : Heap} {a : AC} {m : List (κ × β)} (h : mp P K iv hp a m) (hd : P.all (fun b => P'.contains b) = true) : mp P' K iv hp a m := by
  obtain ⟨b, g, es, clk, h1, h2, h3, h4⟩ := h
  have := List.all_eq_true.1 hd b h1
  exact ⟨b, g, es, clk, by simpa using this, h2, h3, h4⟩
omit D in
theorem EntsOk.len {es : List Ent} {m : List (κ × β)} (h : EntsOk K iv es m) : es.length = m.length := (All2.length h).symm
end

section
variable {κ β : Type} [D : DecidableEq κ] {K : SK κ} {iv : β → IV} {nt : Nat} {σ : Sl} {hp : Heap} {ct d : Nat} {G : Nat → List IV} {R : Run} {Q : Sl → Heap → Nat → Prop} {l : List Ins} {P : List Nat} {a : AC} {m : List (κ × β)} {x ko vo : Opd}

theorem mapAt_of {b g clk : Nat} {es : List Ent} (h : hp.get b = some (.map g es clk)) : hp.mapAt b g = some (es, clk) := by simp [Heap.mapAt, h]

omit D in
theorem k_mkmap (K : SK κ) (iv : β → IV) (nx : ∀ a hp' ct', mp [d] K iv hp' a ([] : List (κ × β)) → Fr [d] hp hp' → wpL G R nt l Q (upd σ d (.v (.c a))) hp' ct') : wpL G R nt (.op (some d) none .mkmap :: l) Q σ hp ct := by
  refine k_op (v := .v (.c (.r (.map d ct)))) (hp' := hp.set d (.map ct [] 0)) (ct' := ct + 1) ?_ (nx _ _ _ ⟨d, ct, [], 0, by simp, rfl, by simp [Heap.get_set], .nil⟩ fun b hb => ?_)
  · simp only [opK, step, mkS_hp, mkS_ct, Option.getD_some]
  · simp at hb; rw [Heap.get_set, if_neg hb]
theorem k_lkp {zero : IV} {key : κ} {z : β} (hx : evσ nt σ x = .v (.c a)) (hm : mp P K iv hp a m) (hk : evσ nt σ ko = V (K.iv key)) (hz : zero = iv z)
    (nx : wpL G R nt l Q (upd σ d (V (iv ((mget m key).getD z)))) hp ct) : wpL G R nt (.op (some d) none (.lkp K.kt [zero] false false x ko) :: l) Q σ hp ct := by
  obtain ⟨b, g, es, clk, h1, rfl, h3, h4⟩ := hm
  refine k_op (v := V (iv ((mget m key).getD z))) (hp' := hp) (ct' := ct) ?_ nx
  simp only [opK, step, ev_mk, hx, hk, K.plain, mkS_hp, mkS_ct, mapAt_of h3, h4.find]
  subst hz
  cases mget m key <;> simp [mk1, V]
theorem k_mupd {key : κ} {val : β} (hx : evσ nt σ x = .v (.c a)) (hm : mp P K iv hp a m) (hk : evσ nt σ ko = V (K.iv key)) (hv : evσ nt σ vo = V (iv val))
    (nx : ∀ hp', mp P K iv hp' a (mput m key val) → Fr P hp hp' → wpL G R nt l Q σ hp' ct) : wpL G R nt (.op none none (.mupd K.kt x ko vo) :: l) Q σ hp ct := by
  obtain ⟨b, g, es, clk, h1, rfl, h3, h4⟩ := hm
  have hf : ∀ y, Fr P hp (hp.set b y) := fun y c hc => by rw [Heap.get_set, if_neg (fun e => hc (by rw [e]; exact h1))]
  cases hg : mget m key with
  | none =>
    refine k_op (dd := none) (hp' := hp.set b (.map g (es ++ [⟨.c (I (K.iv key)), .c (I (iv val)), clk⟩]) (clk + 1))) (ct' := ct) (v := .und) ?_ (nx _ ⟨b, g, _, _, h1, rfl, by rw [Heap.get_set, if_pos rfl], ?_⟩ (hf _))
    · have e3 : ev (mkS nt σ hp ct) vo = V (iv val) := by rw [ev_mk, hv]
      simp only [opK, step, ev_mk, hx, hk, K.plain, mkS_hp, mkS_ct, mapAt_of h3, h4.find, hg, hv, V]; rfl
    · rw [mput_new hg]; exact All2.append h4 (.cons ⟨rfl, rfl⟩ .nil)
  | some w =>
    refine k_op (dd := none) (hp' := hp.set b (.map g (setEnt (.c (I (K.iv key))) (.c (I (iv val))) es) clk)) (ct' := ct) (v := .und) ?_ (nx _ ⟨b, g, _, _, h1, rfl, by rw [Heap.get_set, if_pos rfl], h4.set key val (by rw [hg]; rfl)⟩ (hf _))
    simp only [opK, step, ev_mk, hx, hk, K.plain, mkS_hp, mkS_ct, mapAt_of h3, h4.find, hg, hv, V]; rfl
omit D in
theorem k_lenM (hx : evσ nt σ x = .v (.c a)) (hm : mp P K iv hp a m) (nx : wpL G R nt l Q (upd σ d (V (.int .i64 (m.length : Int)))) hp ct) : wpL G R nt (.op (some d) none (.len 2 x) :: l) Q σ hp ct := by
  obtain ⟨b, g, es, clk, h1, rfl, h3, h4⟩ := hm
  refine k_op (v := V (.int .i64 (m.length : Int))) (hp' := hp) (ct' := ct) ?_ nx
  simp only [opK, step, ev_mk, hx, mkS_hp, mkS_ct, mapAt_of h3, okv, Option.map_some, h4.len]
end
end Go.Abs
