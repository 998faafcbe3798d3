/-
  Typed data beside the abstract machine: the step of each operation, as rules.
-/
import Derived.Test.YtcbepglkfglclaaDoorHAbsY
namespace Go.Abs

/-- Go's operations on data; 'none': Go would panic, or memory is not enough. -/
def idx {α : Type} (l : List α) (n : Int) : Option α := if 0 ≤ n then l[n.toNat]? else none
def sub {α : Type} (l : List α) (a b : Int) : Option (List α) := if 0 ≤ a ∧ a ≤ b ∧ b ≤ l.length then some ((l.take b.toNat).drop a.toNat) else none
def app {α : Type} (bytes : Nat) (l m : List α) : Option (List α) := if (l.length + m.length) * bytes ≤ 17592186044416 ∧ l.length + m.length ≤ 17592186044416 then some (l ++ m) else none
def setI {α : Type} (l : List α) (n : Int) (x : α) : Option (List α) := if 0 ≤ n ∧ n < l.length then some (l.set n.toNat x) else none
def mkN {α : Type} (bytes : Nat) (n : Int) (x : α) : Option (List α) := if 0 ≤ n ∧ bytes * n.toNat ≤ 70368744177664 ∧ n ≤ 70368744177664 then some (List.replicate n.toNat x) else none
def sadd (a b : List UInt8) : Option (List UInt8) := if a.length + b.length ≤ 4611686018427387904 then some (a ++ b) else none
def gquo (k : IntKind) (a b : Int) : Option Int := if b = 0 then none else some (k.wrap (a.tdiv b))
def grem (a b : Int) : Option Int := if b = 0 then none else some (a.tmod b)
def gshl (k : IntKind) (a b : Int) : Option Int := if b < 0 then none else some (k.wrap (a * 2 ^ (min b.toNat k.bits)))
def gshr (k : IntKind) (a b : Int) : Option Int := if b < 0 then none else some (a.fdiv (2 ^ (min b.toNat k.bits)))
def gand (k : IntKind) (a b : Int) : Int := k.wrap (BitVec.ofInt k.bits a &&& BitVec.ofInt k.bits b).toNat
def gor (k : IntKind) (a b : Int) : Int := k.wrap (BitVec.ofInt k.bits a ||| BitVec.ofInt k.bits b).toNat
def gxor (k : IntKind) (a b : Int) : Int := k.wrap (BitVec.ofInt k.bits a ^^^ BitVec.ofInt k.bits b).toNat
def gandnot (k : IntKind) (a b : Int) : Int := k.wrap (BitVec.ofInt k.bits a &&& ~~~(BitVec.ofInt k.bits b)).toNat
def gmax (a b : Int) : Int := if b > a then b else a
def gmin (a b : Int) : Int := if b < a then b else a

theorem idx_is {α : Type} {l : List α} {n : Int} {x : α} (h : idx l n = some x) : 0 ≤ n ∧ n.toNat < l.length ∧ l[n.toNat]? = some x := by
  unfold idx at h
  split at h
  · exact ⟨by assumption, (List.getElem?_eq_some_iff.1 h).1, h⟩
  · simp at h

/-- What is loaded of cells. -/
def ldc (n : Nat) (agg : Bool) (off : Nat) (cells : List AC) : Option A1 := match takeN n (cells.drop off) with
  | some cs => mk1 agg cs
  | none => none
/-- What is stored into cells. -/
def stc (off n : Nat) (cells new : List AC) : Option (List AC) := if new.length = n ∧ off + n ≤ cells.length then some (lay cells off new) else none

section
variable {nt : Nat} {σ : Sl} {hp : Heap} {ct d : Nat} {G : Nat → List IV} {R : Run} {Q : Sl → Heap → Nat → Prop} {l : List Ins}

theorem k_op {dd : Option Nat} {k : K} {v : AV} {hp' : Heap} {ct' : Nat} (h : opK G R (mkS nt σ hp ct) (dd.getD 0) k = some (v, hp', ct')) (n : wpL G R nt l Q (updO σ dd v) hp' ct') : wpL G R nt (.op dd none k :: l) Q σ hp ct := by
  simp only [wpL, wantσ_none, guardO_true, h, wpK_some]; exact n
theorem k_nil (h : Q σ hp ct) : wpL G R nt [] Q σ hp ct := h
/-- A guard that lets by, and one that does not. -/
theorem k_yes {dd : Option Nat} {k : K} {t : Nat} {b : Bool} (hg : evσ nt σ (.t t) = V (.bool b)) (n : wpL G R nt (.op dd none k :: l) Q σ hp ct) : wpL G R nt (.op dd (some (t, b)) k :: l) Q σ hp ct := by
  have e : wantσ nt σ (some (t, b)) = some true := by simp only [wantσ, hg]; simp
  simp only [wpL, wantσ_none, e] at n ⊢; exact n
theorem k_no {dd : Option Nat} {k : K} {t : Nat} {b c : Bool} (hg : evσ nt σ (.t t) = V (.bool c)) (hc : (c == b) = false) (n : wpL G R nt l Q (updO σ dd .skp) hp ct) : wpL G R nt (.op dd (some (t, b)) k :: l) Q σ hp ct := by
  have e : wantσ nt σ (some (t, b)) = some false := by simp only [wantσ, hg, hc]
  simp only [wpL, e, guardO_false, wpK_some]; exact n
theorem k_noS {dd : Option Nat} {k : K} {t : Nat} {b : Bool} (hg : evσ nt σ (.t t) = .skp) (n : wpL G R nt l Q (updO σ dd .skp) hp ct) : wpL G R nt (.op dd (some (t, b)) k :: l) Q σ hp ct := by
  have e : wantσ nt σ (some (t, b)) = some false := by simp only [wantσ, hg]
  simp only [wpL, e, guardO_false, wpK_some]; exact n

theorem wpL_mono {Q' : Sl → Heap → Nat → Prop} (hQ : ∀ σ hp ct, Q σ hp ct → Q' σ hp ct) : ∀ {l : List Ins} {σ : Sl} {hp : Heap} {ct : Nat}, wpL G R nt l Q σ hp ct → wpL G R nt l Q' σ hp ct
  | [], _, _, _, h => hQ _ _ _ h
  | .op dd g k :: l, σ, hp, ct, h => by
    simp only [wpL] at h ⊢
    unfold wpK at h ⊢
    split at h
    · exact wpL_mono hQ h
    · exact h.elim
  | .kill a b :: l, σ, hp, ct, h => by
    simp only [wpL] at h ⊢
    obtain ⟨σ', hp', ct', h1, h2⟩ := h
    exact ⟨σ', hp', ct', h1, wpL_mono hQ h2⟩
  | .frz a :: l, σ, hp, ct, h => by
    simp only [wpL] at h ⊢
    obtain ⟨σ', hp', ct', h1, h2⟩ := h
    exact ⟨σ', hp', ct', h1, wpL_mono hQ h2⟩

theorem wpL_app {l2 : List Ins} : ∀ {l1 : List Ins} {σ : Sl} {hp : Heap} {ct : Nat}, wpL G R nt l1 (fun σ hp ct => wpL G R nt l2 Q σ hp ct) σ hp ct → wpL G R nt (l1 ++ l2) Q σ hp ct
  | [], _, _, _, h => h
  | .op dd g k :: l, σ, hp, ct, h => by
    simp only [wpL, List.cons_append] at h ⊢
    unfold wpK at h ⊢
    split at h
    · exact wpL_app h
    · exact h.elim
  | .kill a b :: l, σ, hp, ct, h => by
    simp only [wpL, List.cons_append] at h ⊢
    obtain ⟨σ', hp', ct', h1, h2⟩ := h
    exact ⟨σ', hp', ct', h1, wpL_app h2⟩
  | .frz a :: l, σ, hp, ct, h => by
    simp only [wpL, List.cons_append] at h ⊢
    obtain ⟨σ', hp', ct', h1, h2⟩ := h
    exact ⟨σ', hp', ct', h1, wpL_app h2⟩

/-- WHERE WAYS MEET AGAIN inside a region: what holds there. -/
theorem k_mid {l1 l2 : List Ins} (M : Sl → Heap → Nat → Prop) (h1 : wpL G R nt l1 M σ hp ct) (h2 : ∀ σ' hp' ct', M σ' hp' ct' → wpL G R nt l2 Q σ' hp' ct') : wpL G R nt (l1 ++ l2) Q σ hp ct :=
  wpL_app (wpL_mono (fun _ _ _ h => h2 _ _ _ h) h1)

theorem k_mov {x : Opd} {a : A1} (h : evσ nt σ x = .v a) (n : wpL G R nt l Q (upd σ d (.v a)) hp ct) : wpL G R nt (.op (some d) none (.mov x) :: l) Q σ hp ct := k_op (by rw [x_mov, h]; rfl) n
theorem k_pickT {c x y : Opd} {a : A1} (hc : evσ nt σ c = V (.bool true)) (h : evσ nt σ x = .v a) (n : wpL G R nt l Q (upd σ d (.v a)) hp ct) : wpL G R nt (.op (some d) none (.pick c x y) :: l) Q σ hp ct := k_op (by rw [x_pick, hc, h]; rfl) n
theorem k_pickF {c x y : Opd} {a : A1} (hc : evσ nt σ c = V (.bool false)) (h : evσ nt σ y = .v a) (n : wpL G R nt l Q (upd σ d (.v a)) hp ct) : wpL G R nt (.op (some d) none (.pick c x y) :: l) Q σ hp ct := k_op (by rw [x_pick, hc, h]; rfl) n
theorem k_bin {op : BinOp} {x y : Opd} {a b : AV} {v : IV} (hx : evσ nt σ x = a) (hy : evσ nt σ y = b) (hv : binV op a b = some v) (n : wpL G R nt l Q (upd σ d (V v)) hp ct) : wpL G R nt (.op (some d) none (.bin op x y) :: l) Q σ hp ct := k_op (by rw [x_bin, hx, hy, hv]; rfl) n
theorem k_quo {x y : Opd} {k : IntKind} {a b q : Int} (hx : evσ nt σ x = V (.int k a)) (hy : evσ nt σ y = V (.int k b)) (e : gquo k a b = some q) (n : wpL G R nt l Q (upd σ d (V (.int k q))) hp ct) : wpL G R nt (.op (some d) none (.bin .quo x y) :: l) Q σ hp ct :=
  k_bin hx hy (by unfold gquo at e; split at e <;> simp_all [binV, intBin, V]) n
theorem k_rem {x y : Opd} {k : IntKind} {a b q : Int} (hx : evσ nt σ x = V (.int k a)) (hy : evσ nt σ y = V (.int k b)) (e : grem a b = some q) (n : wpL G R nt l Q (upd σ d (V (.int k q))) hp ct) : wpL G R nt (.op (some d) none (.bin .rem x y) :: l) Q σ hp ct :=
  k_bin hx hy (by unfold grem at e; split at e <;> simp_all [binV, intBin, V]) n
theorem k_shl {x y : Opd} {k k' : IntKind} {a b q : Int} (hx : evσ nt σ x = V (.int k a)) (hy : evσ nt σ y = V (.int k' b)) (e : gshl k a b = some q) (n : wpL G R nt l Q (upd σ d (V (.int k q))) hp ct) : wpL G R nt (.op (some d) none (.bin .shl x y) :: l) Q σ hp ct :=
  k_bin hx hy (by unfold gshl at e; split at e <;> simp_all [binV, shiftBin, V]) n
theorem k_shr {x y : Opd} {k k' : IntKind} {a b q : Int} (hx : evσ nt σ x = V (.int k a)) (hy : evσ nt σ y = V (.int k' b)) (e : gshr k a b = some q) (n : wpL G R nt l Q (upd σ d (V (.int k q))) hp ct) : wpL G R nt (.op (some d) none (.bin .shr x y) :: l) Q σ hp ct :=
  k_bin hx hy (by unfold gshr at e; split at e <;> simp_all [binV, shiftBin, V]) n
theorem k_sadd {x y : Opd} {a b q : List UInt8} (hx : evσ nt σ x = V (.str a)) (hy : evσ nt σ y = V (.str b)) (e : sadd a b = some q) (n : wpL G R nt l Q (upd σ d (V (.str q))) hp ct) : wpL G R nt (.op (some d) none (.bin .add x y) :: l) Q σ hp ct :=
  k_bin hx hy (by unfold sadd at e; split at e <;> simp_all [binV, strBin, V]) n
theorem k_eqB {neg : Bool} {x y : Opd} {a b : Bool} (hx : evσ nt σ x = V (.bool a)) (hy : evσ nt σ y = V (.bool b)) (n : wpL G R nt l Q (upd σ d (V (.bool (if neg then !(a == b) else a == b)))) hp ct) : wpL G R nt (.op (some d) none (.eqB neg x y) :: l) Q σ hp ct := k_op (by rw [x_eqB, hx, hy]; rfl) n
theorem k_neg {x : Opd} {k : IntKind} {a : Int} (hx : evσ nt σ x = V (.int k a)) (n : wpL G R nt l Q (upd σ d (V (.int k (k.wrap (0 - a))))) hp ct) : wpL G R nt (.op (some d) none (.un .neg x) :: l) Q σ hp ct := k_op (by rw [x_un_neg, hx]; rfl) n
theorem k_not {x : Opd} {a : Bool} (hx : evσ nt σ x = V (.bool a)) (n : wpL G R nt l Q (upd σ d (V (.bool !a))) hp ct) : wpL G R nt (.op (some d) none (.un .not x) :: l) Q σ hp ct := k_op (by rw [x_un_not, hx]; rfl) n
theorem k_cvI {k : IntKind} {x : Opd} {k' : IntKind} {a : Int} (hx : evσ nt σ x = V (.int k' a)) (n : wpL G R nt l Q (upd σ d (V (.int k (k.wrap a)))) hp ct) : wpL G R nt (.op (some d) none (.cvI k x) :: l) Q σ hp ct := k_op (by rw [x_cvI, hx]; rfl) n
theorem k_cvSS {x : Opd} {a : List UInt8} (hx : evσ nt σ x = V (.str a)) (n : wpL G R nt l Q (upd σ d (V (.str a))) hp ct) : wpL G R nt (.op (some d) none (.cvSS x) :: l) Q σ hp ct := k_op (by simp only [opK, step, ev_mk, hx]; rfl) n
def runeStr (n : Int) : List UInt8 := (Utf8.encode n).data.toList
theorem k_cvIS {x : Opd} {k : IntKind} {a : Int} (hx : evσ nt σ x = V (.int k a)) (n : wpL G R nt l Q (upd σ d (V (.str (runeStr a)))) hp ct) : wpL G R nt (.op (some d) none (.cvIS x) :: l) Q σ hp ct := k_op (by simp only [opK, step, ev_mk, hx]; rfl) n
theorem k_fld {off n : Nat} {agg : Bool} {x : Opd} {cs : List AC} {v : A1} (hx : evσ nt σ x = .v (.agg cs)) (hv : ldc n agg off cs = some v) (nx : wpL G R nt l Q (upd σ d (.v v)) hp ct) : wpL G R nt (.op (some d) none (.fld off n agg x) :: l) Q σ hp ct :=
  k_op (by
    rw [x_fld, hx]
    unfold ldc at hv
    simp only
    cases ht : takeN n (cs.drop off) with
    | none => rw [ht] at hv; simp at hv
    | some c => rw [ht] at hv; simp only at hv ⊢; rw [hv]; rfl) nx
theorem k_ext {x : Opd} {i : Nat} {as : List A1} {v : A1} (hx : evσ nt σ x = .tup as) (hv : as[i]? = some v) (n : wpL G R nt l Q (upd σ d (.v v)) hp ct) : wpL G R nt (.op (some d) none (.ext x i) :: l) Q σ hp ct := k_op (by rw [x_ext, hx]; simp only [hv]; rfl) n
theorem k_lenS {x : Opd} {a : List UInt8} (hx : evσ nt σ x = V (.str a)) (n : wpL G R nt l Q (upd σ d (V (.int .i64 a.length))) hp ct) : wpL G R nt (.op (some d) none (.len 0 x) :: l) Q σ hp ct := k_op (by rw [x_len, hx]; rfl) n
theorem k_idxS {x i : Opd} {a : List UInt8} {k : IntKind} {n : Int} {c : UInt8} (hx : evσ nt σ x = V (.str a)) (hi : evσ nt σ i = V (.int k n)) (e : idx a n = some c) (nx : wpL G R nt l Q (upd σ d (V (.int .u8 c.toNat))) hp ct) : wpL G R nt (.op (some d) none (.idxS x i) :: l) Q σ hp ct := by
  obtain ⟨h1, h2, h3⟩ := idx_is e
  refine k_op ?_ nx
  rw [x_idxS, hx, hi]
  simp only [AV.strv, V, AV.nat, AV.int, h1, if_true, h3]
theorem k_slcS {x : Opd} {lo hi : Option Opd} {a r : List UInt8} {m n : Int} (hx : evσ nt σ x = V (.str a)) (h1 : (match lo with | none => some (0 : Int) | some o => (evσ nt σ o).int.map Prod.snd) = some m) (h2 : (match hi with | none => some (a.length : Int) | some o => (evσ nt σ o).int.map Prod.snd) = some n)
    (e : sub a m n = some r) (nx : wpL G R nt l Q (upd σ d (V (.str r))) hp ct) : wpL G R nt (.op (some d) none (.slcS x lo hi) :: l) Q σ hp ct := by
  unfold sub at e
  split at e
  · rename_i hc
    simp at e
    have hb : ∀ (o : Option Opd) (z : Nat) (w : Int), 0 ≤ w → (match o with | none => some (z : Int) | some o => (evσ nt σ o).int.map Prod.snd) = some w → bound z (mkS nt σ hp ct) o = some w.toNat := by
      intro o z w hw h
      cases o with
      | none => simp at h; simp [bound]; omega
      | some o =>
        simp only [bound, ev_mk, AV.nat] at h ⊢
        cases hq : (evσ nt σ o).int with
        | none => rw [hq] at h; simp at h
        | some p =>
          rw [hq] at h; simp at h
          obtain ⟨k, q⟩ := p
          simp at h; subst h; simp [hw]
    refine k_op ?_ nx
    have b1 := hb lo 0 m hc.1 (by simpa using h1)
    have b2 := hb hi a.length n (by omega) h2
    simp only [opK, step, ev_mk, hx, AV.strv, V, b1, b2]
    have e2 : m.toNat ≤ n.toNat ∧ n.toNat ≤ a.length := by omega
    rw [if_pos e2, ← e]
    simp only [okv, Option.map_some, List.drop_take]
    rfl
  · simp at e
theorem k_mx2 {x y : Opd} {k : IntKind} {a b : Int} (hx : evσ nt σ x = V (.int k a)) (hy : evσ nt σ y = V (.int k b)) (n : wpL G R nt l Q (upd σ d (V (.int k (gmax a b)))) hp ct) : wpL G R nt (.op (some d) none (.mx [x, y]) :: l) Q σ hp ct :=
  k_op (by rw [x_mx]; simp only [List.map, hx, hy, foldV, maxI, V, if_true, Option.map_some, gmax]) n
theorem k_mn2 {x y : Opd} {k : IntKind} {a b : Int} (hx : evσ nt σ x = V (.int k a)) (hy : evσ nt σ y = V (.int k b)) (n : wpL G R nt l Q (upd σ d (V (.int k (gmin a b)))) hp ct) : wpL G R nt (.op (some d) none (.mn [x, y]) :: l) Q σ hp ct :=
  k_op (by rw [x_mn]; simp only [List.map, hx, hy, foldV, minI, V, if_true, Option.map_some, gmin]) n

/- Blocks of plain cells: variables in memory. -/
theorem k_alloc {cs : List IV} (n : ∀ g hp', hp'.get d = some (.cells g (cs.map I)) → Fr [d] hp hp' → wpL G R nt l Q (upd σ d (.v (.c (.r (.ptr d g 0))))) hp' (ct + 1)) : wpL G R nt (.op (some d) none (.alloc cs) :: l) Q σ hp ct :=
  k_op (x_alloc cs) (n _ _ (by rw [Heap.get_set]; simp) (Fr.set _ _ _))
theorem k_box {m : Nat} {x : Opd} {a : A1} (hx : evσ nt σ x = .v a) (hm : a.cells.length = m) (n : ∀ g hp', hp'.get d = some (.cells g a.cells) → Fr [d] hp hp' → wpL G R nt l Q (upd σ d (.v (.c (.r (.ptr d g 0))))) hp' (ct + 1)) : wpL G R nt (.op (some d) none (.box m x) :: l) Q σ hp ct :=
  k_op (by rw [x_box, hx]; simp only [hm, if_true]; rfl) (n _ _ (by rw [Heap.get_set]; simp) (Fr.set _ _ _))
theorem row_of {b g : Nat} {cs : List AC} (h : hp.get b = some (.cells g cs)) : hp.row b g = some cs := by simp [Heap.row, h]
theorem cur_of {b g : Nat} {cs : List AC} (h : hp.get b = some (.cells g cs)) : hp.cur b = some g := by simp [Heap.cur, h, Blk.gen]
theorem k_loadB {m : Nat} {agg : Bool} {x : Opd} {b g off : Nat} {cs : List AC} {v : A1} (hx : evσ nt σ x = .v (.c (.r (.ptr b g off)))) (hb : hp.get b = some (.cells g cs)) (hv : ldc m agg off cs = some v) (n : wpL G R nt l Q (upd σ d (.v v)) hp ct) : wpL G R nt (.op (some d) none (.load m agg x) :: l) Q σ hp ct :=
  k_op (by
    rw [x_load, hx]
    unfold ldc at hv
    simp only [lookAt, row_of hb]
    cases ht : takeN m (cs.drop off) with
    | none => rw [ht] at hv; simp at hv
    | some c => rw [ht] at hv; simp only at hv ⊢; rw [hv]; rfl) n
theorem k_storeB {m : Nat} {x y : Opd} {b g off : Nat} {cs cs' : List AC} {w : A1} (hx : evσ nt σ x = .v (.c (.r (.ptr b g off)))) (hy : evσ nt σ y = .v w) (hb : hp.get b = some (.cells g cs)) (hv : stc off m cs w.cells = some cs')
    (n : ∀ hp', hp'.get b = some (.cells g cs') → Fr [b] hp hp' → wpL G R nt l Q σ hp' ct) : wpL G R nt (.op none none (.store m x y) :: l) Q σ hp ct := by
  unfold stc at hv
  split at hv
  · rename_i hc
    have hv := Option.some.inj hv
    refine k_op (hp' := hp.set b (.cells g cs')) (v := .und) (ct' := ct) ?_ (n _ (by rw [Heap.get_set]; simp) (Fr.set _ _ _))
    rw [x_store, hx, hy]
    simp only [row_of hb]
    rw [if_pos hc, hv]
  · simp at hv
theorem k_fadrB {o : Nat} {x : Opd} {b g off : Nat} {cs : List AC} (hx : evσ nt σ x = .v (.c (.r (.ptr b g off)))) (hb : hp.get b = some (.cells g cs)) (n : wpL G R nt l Q (upd σ d (.v (.c (.r (.ptr b g (off + o)))))) hp ct) : wpL G R nt (.op (some d) none (.fadr o x) :: l) Q σ hp ct :=
  k_op (by rw [x_fadr, hx]; simp only [cur_of hb, if_true]) n
theorem k_nilB {x : Opd} {b g off : Nat} {cs : List AC} (hx : evσ nt σ x = .v (.c (.r (.ptr b g off)))) (hb : hp.get b = some (.cells g cs)) (n : wpL G R nt l Q (upd σ d (.v (.c (.r (.ptr b g off))))) hp ct) : wpL G R nt (.op (some d) none (.nilchk x) :: l) Q σ hp ct :=
  k_op (by rw [x_nilchk, hx]; simp only [cur_of hb, if_true]) n

end
end Go.Abs
