/-
  Typed data beside the abstract machine: slices, calls, loops, results, as rules.
-/
import Derived.Test.YtameabpbghichaaGreatDoorHM3Absb
import Derived.Sort.Grow
import Derived.Lib.SlicesCompact
import Derived.Lib.Bytealg
import Derived.Lib.SlTrimSet
import Derived.Lib.Atoi
import Derived.Lib.Repeat
import Derived.Lib.DecodeN
import Derived.Lib.IndexMore
import Derived.Lib.ValidU
import Derived.Lib.LaidTab
import Derived.Laws.Externs
import Derived.Below
import Derived.Maps.RangeRun
namespace Go.Abs
def ep (P : List Nat) (G : Nat → List IV) (hp : Heap) (p : AC) (cells : List AC) : Prop :=
  (∃ rest,lookAt G hp p = some (cells ++ rest)) ∧ ((∃ b g off,b ∈ P ∧ p = .r (.ptr b g off)) ∨ ∃ v,p = I v)
def eo {α : Type} (P : List Nat) (R : Rep α) (f : Bool) (hp : Heap) (a : AC) (l : List α) (p : AC) (n : Nat) : Prop :=
  ∃ (b g off : Nat) (cs c : List IV),b ∈ P ∧ a = .r (.sl b g off R.sz l.length) ∧ p = .r (.ptr b g (off + n)) ∧ hp.row b g = some (cs.map I) ∧ rows R f c l ∧ off + l.length * R.sz ≤ cs.length ∧ (cs.drop off).take (l.length * R.sz) = c

theorem ep.fr {P P' : List Nat} {G : Nat → List IV} {hp hp' : Heap} {p : AC} {cells : List AC} (h : ep P G hp p cells) (k : Fr P' hp hp') (hd : P.all (fun b=>!P'.contains b) = true) : ep P G hp' p cells:=by
 refine ⟨?_,h.2⟩;obtain ⟨rest,h1⟩:=h.1;refine ⟨rest,?_⟩;rcases h.2 with ⟨b,g,off,hb,rfl⟩ | ⟨v,rfl⟩
 ·have:=List.all_eq_true.1 hd b hb
  simp only [lookAt] at h1 ⊢;rw [k.row (by simpa using this)]; exact h1
 ·cases v <;> simp only [lookAt] at h1 ⊢ <;> exact h1
theorem eo.fr {α : Type} {P P' : List Nat} {R : Rep α} {f : Bool} {hp hp' : Heap} {a p : AC} {l : List α} {n : Nat} (h : eo P R f hp a l p n) (k : Fr P' hp hp') (hd : P.all (fun b=>!P'.contains b) = true) : eo P R f hp' a l p n:=by
 obtain ⟨b,g,off,cs,c,hb,h1,h2,h3,h4⟩:=h
 have:=List.all_eq_true.1 hd b hb
 exact ⟨b,g,off,cs,c,hb,h1,h2,by rw [k.row (by simpa using this)]; exact h3,h4⟩

theorem so.weak {α : Type} {P : List Nat} {R : Rep α} {f : Bool} {hp : Heap} {a : AC} {l : List α} (h : so P R f hp a l) : so P R false hp a l:=by
 rcases h with h | h | ⟨b,g,off,cs,c,h1,h2,h3,h4,h5⟩
 ·exact .inl h
 ·exact .inr (.inl h)
 ·exact .inr (.inr ⟨b,g,off,cs,c,h1,h2,h3,rows_weak h4,h5⟩)
theorem sa.weak {α : Type} {P : List Nat} {R : Rep α} {f : Bool} {hp : Heap} {a : AC} {l : List α} (h : sa P R f hp a l) : sa P R false hp a l:=by
 rcases h with ⟨v,rfl,h⟩ | h
 ·exact .inl ⟨v,rfl,sv_weak h⟩
 ·exact .inr h.weak

inductive Bnd (nt : Nat) (σ : Sl) (z : Int) : Option Opd → Int → Prop
  | none : Bnd nt σ z none z
  | some {o : Opd} {k : IntKind} {m : Int} (h : evσ nt σ o = V (.int k m)) : Bnd nt σ z (some o) m

inductive ArgsP (nt : Nat) (σ : Sl) (hp : Heap) (ids : List Nat) : List Opd → List A1 → List A1 → Prop
  | nil : ArgsP nt σ hp ids [] [] []
  | cons {x : Opd} {a a' : A1} {l : List Opd} {as as' : List A1} (h : evσ nt σ x = .v a) (t : to1 true hp ids a = some a') (r : ArgsP nt σ hp ids l as as') : ArgsP nt σ hp ids (x :: l) (a :: as) (a' :: as')
inductive PartsP (nt : Nat) (σ : Sl) : List (Nat × Opd) → List (Nat × A1) → Prop
  | nil : PartsP nt σ [] []
  | cons {i : Nat} {x : Opd} {a : A1} {l : List (Nat × Opd)} {as : List (Nat × A1)} (h : evσ nt σ x = .v a) (r : PartsP nt σ l as) : PartsP nt σ ((i,x) :: l) ((i,a) :: as)
inductive BackP (hp : Heap) (pl : List (Nat × Nat × Nat)) (lent : Bool) : List AC → List IV → Prop
  | nil : BackP hp pl lent [] []
  | cons {c : AC} {v : IV} {cs : List AC} {vs : List IV} (h : backC hp pl lent c = some (I v)) (r : BackP hp pl lent cs vs) : BackP hp pl lent (c :: cs) (v :: vs)
inductive ResP (nt : Nat) (σ : Sl) (hp : Heap) (pl : List (Nat × Nat × Nat)) (lent : Bool) : List Res → List A1 → Prop
  | nil : ResP nt σ hp pl lent [] []
  | tmp {t : Nat} {a a' : A1} {l : List Res} {vs : List A1} (h : evσ nt σ (.t t) = .v a) (b : back1 hp pl lent a = some a') (r : ResP nt σ hp pl lent l vs) : ResP nt σ hp pl lent (.tmp t :: l) (a' :: vs)
  | cell {t b g off n : Nat} {agg : Bool} {cs : List AC} {a a' : A1} {l : List Res} {vs : List A1} (h : evσ nt σ (.t t) = .v (.c (.r (.ptr b g off)))) (hb : hp.get b = some (.cells g cs)) (hl : ldc n agg off cs = some a)
      (k : back1 hp pl lent a = some a') (r : ResP nt σ hp pl lent l vs) : ResP nt σ hp pl lent (.cell t n agg :: l) (a' :: vs)

theorem ArgsP.ev {nt : Nat} {σ : Sl} {hp : Heap} {ids : List Nat} {l : List Opd} {as as' : List A1} (h : ArgsP nt σ hp ids l as as') : traverse (fun o=>(evσ nt σ o).one) l = some as ∧ traverse (to1 true hp ids) as = some as':=by
 induction h with
 | nil=>exact ⟨rfl,rfl⟩
 | cons h t _ ih=>exact ⟨by rw [traverse_cons,h,ih.1]; rfl,by rw [traverse_cons,t,ih.2]⟩
theorem PartsP.ev {nt : Nat} {σ : Sl} {l : List (Nat × Opd)} {as : List (Nat × A1)} (h : PartsP nt σ l as) : traverse (fun p : Nat × Opd=>(evσ nt σ p.2).one.map fun a=>(p.1,a)) l = some as:=by
 induction h with
 | nil=>rfl
 | cons h _ ih=>rw [traverse_cons,h,ih]; rfl
theorem BackP.ev {hp : Heap} {pl : List (Nat × Nat × Nat)} {lent : Bool} {cs : List AC} {vs : List IV} (h : BackP hp pl lent cs vs) : traverse (backC hp pl lent) cs = some (vs.map I):=by
 induction h with
 | nil=>rfl
 | cons h _ ih=>rw [traverse_cons,h,ih]; rfl
theorem BackP.agg {hp : Heap} {pl : List (Nat × Nat × Nat)} {lent : Bool} {cs : List AC} {vs : List IV} (h : BackP hp pl lent cs vs) : back1 hp pl lent (.agg cs) = some (.agg (vs.map I)):=by
 simp only [back1,h.ev,Option.map_some]
theorem back_sc {hp : Heap} {pl : List (Nat × Nat × Nat)} {lent : Bool} {v : IV} (h : v.fresh = true) : back1 hp pl lent (.c (I v)) = some (.c (I v)):=by
 simp only [back1,backC_inl (fun _=>h),Option.map_some]
theorem back_c {hp : Heap} {pl : List (Nat × Nat × Nat)} {lent : Bool} {a : AC} {v : IV} (h : backC hp pl lent a = some (I v)) : back1 hp pl lent (.c a) = some (.c (I v)):=by
 simp only [back1,h,Option.map_some]
theorem ResP.ev {nt : Nat} {σ : Sl} {hp : Heap} {pl : List (Nat × Nat × Nat)} {lent : Bool} {l : List Res} {vs : List A1} (h : ResP nt σ hp pl lent l vs) : ∃ rs,traverse (readRσ nt σ hp) l = some rs ∧ traverse (back1 hp pl lent) rs = some vs:=by
 induction h with
 | nil=>exact ⟨[],rfl,rfl⟩
 | tmp h b _ ih =>
  obtain ⟨rs,h1,h2⟩:=ih;exact ⟨_ :: rs,by rw [traverse_cons,readRσ_tmp,h,h1]; rfl,by rw [traverse_cons,b,h2]⟩
 | cell h hb hl k _ ih =>
  obtain ⟨rs,h1,h2⟩:=ih;refine ⟨_ :: rs,?_,by rw [traverse_cons,k,h2]⟩;rw [traverse_cons,h1];simp only [readRσ,h,row_of hb];unfold ldc at hl;split at hl
  ·rename_i cs' hc; simp only [hc,hl]
  ·simp at hl

def pc (R : Run) (f : Nat) (as : List A1) (fr : Bool) (P : List A1 → Prop) : Prop:=∀ lent,(lent = true → fr = true) → ∃ vs,pureCall R f as lent = some vs ∧ P vs
def meth (R : Run) (f : Nat) (cells : List IV) (as : List A1) (P : List A1 → List IV → Prop) : Prop :=
  ∃ rs h cs2 vs cells',R f (.c (.r (.ptr PB 0 0)) :: as) [.cells 0 (cells.map I)] = some (rs,h) ∧ h.get PB = some (.cells 0 cs2) ∧ (∀ b g,traverse (backC h [(PB,b,g)] false) cs2 = some (cells'.map I)) ∧ (∀ b g,traverse (back1 h [(PB,b,g)] false) rs = some vs) ∧ P vs cells'
def fin (lent : Bool) (P : List A1 → Prop) : List A1 → Heap → Prop:=fun rs hp=>∃ vs,traverse (back1 hp [] lent) rs = some vs ∧ P vs
def finM (P : List A1 → List IV → Prop) : List A1 → Heap → Prop:=fun rs hp =>
  ∃ cs2 vs cells',hp.get PB = some (.cells 0 cs2) ∧ (∀ b g,traverse (backC hp [(PB,b,g)] false) cs2 = some (cells'.map I)) ∧ (∀ b g,traverse (back1 hp [(PB,b,g)] false) rs = some vs) ∧ P vs cells'

section
variable {nt : Nat} {σ : Sl} {hp : Heap} {ct d : Nat} {G : Nat → List IV} {R : Run} {Q : Sl → Heap → Nat → Prop} {l : List Ins}

theorem k_len {α : Type} {E : Rep α} {P : List Nat} {f : Bool} {x : Opd} {a : AC} {xs : List α} (hx : evσ nt σ x = .v (.c a)) (hs : sa P E f hp a xs) (n : wpL G R nt l Q (upd σ d (V (.int .i64 xs.length))) hp ct) : wpL G R nt (.op (some d) none (.len 1 x) :: l) Q σ hp ct:=by
 refine k_op (v:=V (.int .i64 xs.length)) (hp':=hp) (ct':=ct) ?_ n;rw [x_len,hx];rcases hs with ⟨v,rfl,⟨rfl,rfl⟩ | ⟨rfl,rfl⟩ | ⟨t,c,rfl,h1,_⟩⟩ | ⟨rfl,rfl⟩ | ⟨rfl,rfl⟩ | ⟨b,g,off,cs,c,hb,rfl,h2,h3,h4,h5⟩
 ·rfl
 ·rfl
 ·rfl
 ·rfl
 ·rfl
 ·simp only [(Heap.row_eq h2).2,if_true]

theorem drop_at {α : Type} {E : Rep α} {f : Bool} {cs : List IV} {c : List IV} {xs : List α} {off n : Nat} {y : α} (_ : rows E f c xs) (_ : off + xs.length * E.sz ≤ cs.length) (h5 : (cs.drop off).take (xs.length * E.sz) = c) (hy : xs[n]? = some y) :
  ∃ rest,(cs.map I).drop (off + n * E.sz) = (((c.drop (n * E.sz)).take E.sz).map I) ++ rest:=by
 obtain ⟨hn,_⟩:=List.getElem?_eq_some_iff.1 hy;have hm : n * E.sz + E.sz ≤ xs.length * E.sz:=by rw [← Nat.succ_mul]; exact Nat.mul_le_mul_right _ hn
 refine ⟨((cs.map I).drop (off + n * E.sz)).drop E.sz,?_⟩;have : ((c.drop (n * E.sz)).take E.sz).map I = ((cs.map I).drop (off + n * E.sz)).take E.sz:=by
  rw [← h5,List.drop_take,List.take_take,Nat.min_eq_left (by omega),List.drop_drop,List.map_take,List.map_drop]
 rw [this,List.take_append_drop]

theorem k_iadrL {α : Type} {E : Rep α} {P : List Nat} {f : Bool} {sz : Nat} {x i : Opd} {a : AC} {xs : List α} {k : IntKind} {n : Int} {y : α} (hx : evσ nt σ x = .v (.c a)) (hs : sa P E f hp a xs) (hi : evσ nt σ i = V (.int k n)) (e : idx xs n = some y) (hz : E.sz = sz)
  (nx : ∀ p c,ep P G hp p (c.map I) → E.rp f c y → wpL G R nt l Q (upd σ d (.v (.c p))) hp ct) : wpL G R nt (.op (some d) none (.iadr sz x i) :: l) Q σ hp ct:=by
 subst hz;obtain ⟨h1,h2,h3⟩:=idx_is e;rcases hs with ⟨v,rfl,⟨rfl,rfl⟩ | ⟨rfl,rfl⟩ | ⟨t,c,rfl,h4,_⟩⟩ | ⟨rfl,rfl⟩ | ⟨rfl,rfl⟩ | ⟨b,g,off,cs,c,hb,rfl,h4,h5,h6,h7⟩
 ·simp at h2
 ·simp at h2
 ·refine k_op (v:=V (.lp t ((c.drop (n.toNat * E.sz)).take E.sz))) (hp':=hp) (ct':=ct) ?_ (nx _ ((c.drop (n.toNat * E.sz)).take E.sz) ⟨⟨[],?_⟩,.inr ⟨_,rfl⟩⟩ (rows_get h4 h3))
  ·rw [x_iadr,hx,hi]
   simp only [AV.nat,AV.int,V,h1,if_true,h2,rows_len h4,and_self]
  ·simp [lookAt]
 ·simp at h2
 ·simp at h2
 ·obtain ⟨rest,hr⟩:=drop_at h5 h6 h7 h3
  refine k_op (v:=.v (.c (.r (.ptr b g (off + n.toNat * E.sz))))) (hp':=hp) (ct':=ct) ?_ (nx _ _ ⟨⟨rest,?_⟩,.inl ⟨b,g,_,hb,rfl⟩⟩ (rows_get h5 h3))
  ·rw [x_iadr,hx,hi]
   simp only [AV.nat,AV.int,h1,if_true,h2,(Heap.row_eq h4).2,and_self]
  ·simp only [lookAt,h4,hr]


theorem k_loadL {P : List Nat} {m : Nat} {agg : Bool} {x : Opd} {p : AC} {cells : List AC} {v : A1} (hx : evσ nt σ x = .v (.c p)) (h : ep P G hp p cells) (hv : ldc m agg 0 cells = some v) (n : wpL G R nt l Q (upd σ d (.v v)) hp ct) : wpL G R nt (.op (some d) none (.load m agg x) :: l) Q σ hp ct:=by
 obtain ⟨⟨rest,h1⟩,h2⟩:=h;refine k_op (v:=.v v) (hp':=hp) (ct':=ct) ?_ n;rw [x_load,hx];simp only [h1];unfold ldc takeN at hv;unfold takeN;simp only [List.drop_zero] at hv;split at hv
 ·rename_i cs hc
  split at hc
  ·rename_i hle
   simp at hc;rw [if_pos (by simp; omega),List.take_append_of_le_length hle,hc];simp only [hv,Option.map_some]
  ·simp at hc
 ·simp at hv

theorem bnd_nat {σ : Sl} {z : Nat} {o : Option Opd} {m : Int} (h : Bnd nt σ z o m) (hm : 0 ≤ m) : bound z (mkS nt σ hp ct) o = some m.toNat:=by
 cases h with
 | none=>simp [bound]
 | some h=>simp only [bound,ev_mk,h,AV.nat,V,AV.int,hm,if_true]

theorem k_slcT {x : Opd} {lo hi : Option Opd} {a r : List UInt8} {m n : Int} (hx : evσ nt σ x = V (.str a)) (h1 : Bnd nt σ (0 : Nat) lo m) (h2 : Bnd nt σ a.length hi n) (e : sub a m n = some r) (nx : wpL G R nt l Q (upd σ d (V (.str r))) hp ct) :
  wpL G R nt (.op (some d) none (.slcS x lo hi) :: l) Q σ hp ct:=by
 unfold sub at e;split at e
 ·rename_i hc
  have e:=Option.some.inj e;refine k_op ?_ nx;have e2 : m.toNat ≤ n.toNat ∧ n.toNat ≤ a.length:=by omega
  simp only [opK,step,ev_mk,hx,AV.strv,V,bnd_nat h1 hc.1,bnd_nat h2 (Int.le_trans hc.1 hc.2.1),e2,and_self,if_true,okv,Option.map_some,← List.drop_take,e];rfl
 ·simp at e




theorem k_app {α : Type} {E : Rep α} {P P' : List Nat} {f : Bool} {sz bytes : Nat} {x y : Opd} {a b : AC} {xs ys zs : List α} (hx : evσ nt σ x = .v (.c a)) (hs : so P E f hp a xs) (hy : evσ nt σ y = .v (.c b)) (ht : sa P' E f hp b ys) (e : app bytes xs ys = some zs) (hz : E.sz = sz)
  (nx : ∀ a' hp' ct',so (d :: P) E f hp' a' zs → Fr (d :: P) hp hp' → wpL G R nt l Q (upd σ d (.v (.c a'))) hp' ct') : wpL G R nt (.op (some d) none (.app sz bytes false x y) :: l) Q σ hp ct:=by
 subst hz;unfold app at e;split at e
 ·rename_i hb
  have e:=Option.some.inj e;subst e;have hstr : isStrC b = false:=by
   rcases ht with ⟨v,rfl,⟨rfl,rfl⟩ | ⟨rfl,rfl⟩ | ⟨t,c,rfl,h4,h5⟩⟩ | ⟨rfl,rfl⟩ | ⟨rfl,rfl⟩ | ⟨b,g,off,cs,c,hb,rfl,h4⟩ <;> rfl
  obtain ⟨c,hc,hcs⟩:=ht.cells;have hcl:=rows_len hc;rcases hs with ⟨rfl,rfl⟩ | ⟨rfl,rfl⟩ | ⟨b',g,off,cs,c',hb',rfl,h4,h5,h6,h7⟩
  ·by_cases h0 : ys.length = 0
   ·obtain rfl : ys = []:=List.length_eq_zero_iff.1 h0
    refine k_op (v:=V .nilS) (hp':=hp) (ct':=ct) ?_ (nx _ _ _ (.inl ⟨rfl,rfl⟩) (Fr.refl _ _));rw [x_app,hx,hy]; simp only [hstr,if_true,hcs]; rfl
   ·refine k_op (v:=.v (.c (.r (.sl d ct 0 E.sz ys.length)))) (hp':=hp.set d (.cells ct (c.map I))) (ct':=ct + 1) ?_ (nx _ _ _ (.inr (.inr ⟨d,ct,0,c,c,by simp,rfl,by simp [Heap.row,Heap.get_set],hc,by simp [hcl],by rw [List.drop_zero,List.nil_append,← hcl,List.take_of_length_le (by simp)]⟩)) (fun q hq=>by rw [Heap.get_set]; simp at hq; simp [hq.1]))
    rw [x_app,hx,hy]; simp only [hstr,if_true,hcs,h0,if_false];rw [if_pos (by simpa using hb)]; rfl
  ·by_cases h0 : ys.length = 0
   ·obtain rfl : ys = []:=List.length_eq_zero_iff.1 h0
    refine k_op (v:=V .emp) (hp':=hp) (ct':=ct) ?_ (nx _ _ _ (.inr (.inl ⟨rfl,rfl⟩)) (Fr.refl _ _));rw [x_app,hx,hy]; simp only [hstr,if_true,hcs]; rfl
   ·refine k_op (v:=.v (.c (.r (.sl d ct 0 E.sz ys.length)))) (hp':=hp.set d (.cells ct (c.map I))) (ct':=ct + 1) ?_ (nx _ _ _ (.inr (.inr ⟨d,ct,0,c,c,by simp,rfl,by simp [Heap.row,Heap.get_set],hc,by simp [hcl],by rw [List.drop_zero,List.nil_append,← hcl,List.take_of_length_le (by simp)]⟩)) (fun q hq=>by rw [Heap.get_set]; simp at hq; simp [hq.1]))
    rw [x_app,hx,hy]; simp only [hstr,if_true,hcs,h0,if_false];rw [if_pos (by simpa using hb)]; rfl
  ·have hcl':=rows_len h5
   have hrow : (cs.map I).take (off + xs.length * E.sz) ++ c.map I = (cs.take (off + xs.length * E.sz) ++ c).map I:=by rw [List.map_append,List.map_take]
   refine k_op (v:=.v (.c (.r (.sl b' ct off E.sz (xs.length + ys.length))))) (hp':=hp.set b' (.cells ct ((cs.map I).take (off + xs.length * E.sz) ++ c.map I))) (ct':=ct + 1) ?_ (nx _ _ _ (.inr (.inr ⟨b',ct,off,cs.take (off + xs.length * E.sz) ++ c,c' ++ c,by simp [hb'],by simp,by rw [← hrow]; simp [Heap.row,Heap.get_set],rows_append hc h5,?_,?_⟩)) (fun q hq=>by rw [Heap.get_set]; simp at hq; rw [if_neg]; rintro rfl; exact hq.2 hb'))
   ·rw [x_app,hx,hy]; simp only [hstr,if_true,hcs,h4,List.length_map]
    rw [if_pos (by simpa using ⟨h6,hb⟩)]
   ·simp [hcl,Nat.add_mul]; omega
   ·have e1 : (cs.take (off + xs.length * E.sz)).drop off = c':=by rw [← h7,List.drop_take]; congr 1; omega
    have hoff : off ≤ (cs.take (off + xs.length * E.sz)).length:=by simp; omega
    rw [List.drop_append_of_le_length hoff,e1,List.take_of_length_le];simp [hcl,hcl',Nat.add_mul]
 ·simp at e

theorem k_mksl {α : Type} {E : Rep α} {f : Bool} {sz bytes : Nat} {zero : List IV} {x y : Opd} {k k' : IntKind} {n : Int} {z : α} {zs : List α} (hx : evσ nt σ x = V (.int k n)) (hy : evσ nt σ y = V (.int k' n)) (e : mkN bytes n z = some zs) (hzr : E.rp f zero z) (hz : E.sz = sz)
  (nx : ∀ a' hp',so [d] E f hp' a' zs → Fr [d] hp hp' → wpL G R nt l Q (upd σ d (.v (.c a'))) hp' (ct + 1)) : wpL G R nt (.op (some d) none (.mksl sz bytes zero x y) :: l) Q σ hp ct:=by
 subst hz;unfold mkN at e;split at e
 ·rename_i hb
  have e:=Option.some.inj e;subst e;have hzl:=E.len hzr;have hr : rows E f (List.replicate n.toNat zero).flatten (List.replicate n.toNat z):=rows_replicate hzr _;have hrl:=rows_len hr;simp only [List.length_replicate] at hrl;refine k_op (v:=.v (.c (.r (.sl d ct 0 E.sz n.toNat)))) (hp':=hp.set d (.cells ct (repC n.toNat zero))) (ct':=ct + 1) ?_ (nx _ _ (.inr (.inr ⟨d,ct,0,(List.replicate n.toNat zero).flatten,_,by simp,by simp,by rw [← repC_flat]; simp [Heap.row,Heap.get_set],hr,?_,?_⟩)) (Fr.set _ _ _))
  ·rw [x_mksl,hx,hy]
   simp only [AV.nat,AV.int,hb.1,if_true,hb.2.1,hzl,true_and,and_true];rw [if_pos (by omega)]; rfl
  ·rw [hrl]; simp
  ·rw [List.drop_zero,List.length_replicate,← hrl,List.take_of_length_le (Nat.le_refl _)]
 ·simp at e

theorem k_bslL {sz len : Nat} {zero : List IV} {parts : List (Nat × Opd)} {ps : List (Nat × A1)} {vs : List IV} (hp1 : PartsP nt σ parts ps) (hb : len * sz ≤ 16777216 ∧ zero.length = sz) (hv : fillS sz (repC len zero) ps = some (vs.map I)) (n : wpL G R nt l Q (upd σ d (V (.lit 0 vs len))) hp ct) :
  wpL G R nt (.op (some d) none (.bsl sz len zero parts false) :: l) Q σ hp ct :=
 k_op (by rw [x_bsl,hp1.ev]; simp only; rw [if_pos hb,hv]; simp only [rd_inls,Bool.false_eq_true,if_false]) n
theorem k_build {zero : List IV} {places : List (Nat × Nat)} {parts : List (Nat × Opd)} {ps : List (Nat × A1)} {cs : List AC} (hp1 : PartsP nt σ parts ps) (hv : fillP places (zero.map I) ps = some cs) (n : wpL G R nt l Q (upd σ d (.v (.agg cs))) hp ct) :
  wpL G R nt (.op (some d) none (.build zero places parts) :: l) Q σ hp ct :=
 k_op (by rw [x_build,hp1.ev]; simp only [hv,Option.map_some]) n

theorem k_iadrO {α : Type} {E : Rep α} {P : List Nat} {f : Bool} {sz : Nat} {x i : Opd} {a : AC} {xs : List α} {k : IntKind} {n : Int} (hx : evσ nt σ x = .v (.c a)) (hs : so P E f hp a xs) (hi : evσ nt σ i = V (.int k n)) (hn : 0 ≤ n ∧ n < xs.length) (hz : E.sz = sz)
  (nx : ∀ p,eo P E f hp a xs p (n.toNat * sz) → wpL G R nt l Q (upd σ d (.v (.c p))) hp ct) : wpL G R nt (.op (some d) none (.iadr sz x i) :: l) Q σ hp ct:=by
 subst hz;rcases hs with ⟨rfl,rfl⟩ | ⟨rfl,rfl⟩ | ⟨b,g,off,cs,c,hb,rfl,h4,h5,h6,h7⟩
 ·simp at hn; omega
 ·simp at hn; omega
 ·have h2 : n.toNat < xs.length:=by omega
  refine k_op (v:=.v (.c (.r (.ptr b g (off + n.toNat * E.sz))))) (hp':=hp) (ct':=ct) ?_ (nx _ ⟨b,g,off,cs,c,hb,rfl,rfl,h4,h5,h6,h7⟩);rw [x_iadr,hx,hi];simp only [AV.nat,AV.int,hn.1,if_true,h2,(Heap.row_eq h4).2,and_self]
theorem lay_in {β : Type} (B W : List β) (N o m sz T : Nat) (h : o + m ≤ sz) (hN : N + sz ≤ T) (hT : T ≤ B.length) (hW : W.length = m) :
  (B.take (N + o) ++ W ++ B.drop (N + o + m)).take T = (B.take T).take N ++ ((((B.take T).drop N).take sz).take o ++ W ++ (((B.take T).drop N).take sz).drop (o + m)) ++ (B.take T).drop (N + sz):=by
 have e1 : (B.take T).take N ++ (((B.take T).drop N).take sz).take o = B.take (N + o):=by
  rw [List.take_take,List.take_take,Nat.min_eq_left (by omega),Nat.min_eq_left (by omega),List.drop_take,List.take_take,Nat.min_eq_left (by omega),← List.take_add]
 have e2 : (((B.take T).drop N).take sz).drop (o + m) ++ (B.take T).drop (N + sz) = (B.take T).drop (N + o + m):=by
  have : (B.take T).drop (N + o + m) = ((B.take T).drop N).drop (o + m):=by rw [List.drop_drop]; congr 1; omega
  rw [this];conv=>rhs; rw [← List.take_append_drop sz ((B.take T).drop N)]
  rw [List.drop_append_of_le_length (by simp; omega),List.drop_drop]
 have e3 : (B.take (N + o) ++ W ++ B.drop (N + o + m)).take T = B.take (N + o) ++ W ++ (B.take T).drop (N + o + m):=by
  rw [List.take_append,List.take_of_length_le (by simp; omega),List.drop_take];congr 2;simp; omega
 rw [e3,← e1,← e2];simp
theorem k_storeO {α : Type} {E : Rep α} {P : List Nat} {f : Bool} {m o sz : Nat} {x y : Opd} {a p : AC} {w : A1} {ws : List IV} {xs : List α} {n : Int} {u u' : α} (hx : evσ nt σ x = .v (.c p)) (h : eo P E f hp a xs p (n.toNat * sz + o)) (hy : evσ nt σ y = .v w) (hw : w.cells = ws.map I) (hm : ws.length = m)
  (hu : idx xs n = some u) (ho : o + m ≤ sz) (hz : E.sz = sz) (hu' : ∀ c,E.rp f c u → E.rp f (c.take o ++ ws ++ c.drop (o + m)) u')
  (nx : ∀ hp',so P E f hp' a (xs.set n.toNat u') → Fr P hp hp' → wpL G R nt l Q σ hp' ct) : wpL G R nt (.op none none (.store m x y) :: l) Q σ hp ct:=by
 subst hz;obtain ⟨h1,h2,h3⟩:=idx_is hu;obtain ⟨b,g,off,cs,c,hb,rfl,rfl,h4,h5,h6,h7⟩:=h;have hrow:=rows_get h5 h3;have hmul : n.toNat * E.sz + E.sz ≤ xs.length * E.sz:=by rw [← Nat.succ_mul]; exact Nat.mul_le_mul_right _ h2
 have hcl:=rows_len h5;generalize hN : n.toNat * E.sz = N at *;have hlay : lay (cs.map I) (off + (N + o)) (ws.map I) = (cs.take (off + (N + o)) ++ ws ++ cs.drop (off + (N + o) + m)).map I:=by simp [lay,hm]
 refine k_op (v:=.und) (hp':=hp.set b (.cells g (lay (cs.map I) (off + (N + o)) w.cells))) (ct':=ct) ?_ (nx _ (.inr (.inr ⟨b,g,off,cs.take (off + (N + o)) ++ ws ++ cs.drop (off + (N + o) + m),c.take (n.toNat * E.sz) ++ ((((c.drop (n.toNat * E.sz)).take E.sz).take o) ++ ws ++ (((c.drop (n.toNat * E.sz)).take E.sz).drop (o + m))) ++ c.drop ((n.toNat + 1) * E.sz),hb,by simp,by rw [hw,hlay]; simp [Heap.row,Heap.get_set],rows_set h5 h2 (hu' _ (by rw [hN]; exact hrow)),?_,?_⟩)) (fun q hq=>by rw [Heap.get_set,if_neg]; rintro rfl; exact hq hb))
 ·rw [x_store,hx,hy]
  simp only [h4];rw [if_pos (by rw [hw,List.length_map,List.length_map]; exact ⟨hm,by omega⟩)]
 ·rw [List.length_set]; simp; omega
 ·rw [List.length_set,Nat.succ_mul,hN]
  have e0 : (cs.take (off + (N + o)) ++ ws ++ cs.drop (off + (N + o) + m)).drop off = (cs.drop off).take (N + o) ++ ws ++ (cs.drop off).drop (N + o + m):=by
   have q1 : off + (N + o) - off = N + o:=by omega
   have q2 : off + (N + o) + m = off + (N + o + m):=by omega
   rw [List.append_assoc,List.drop_append_of_le_length (by simp; omega),List.drop_take,List.drop_drop,← List.append_assoc,q1,q2]
  rw [e0,← h7];exact lay_in _ _ N o m E.sz _ ho (by omega) (by simp; omega) hm

theorem k_call {dd : Option Nat} {f : Nat} {args : List Opd} {as as' : List A1} {fr : Bool} {P : List A1 → Prop} (ha : ArgsP nt σ hp [] args as as') (hc : pc R f as' fr P) (hl : fr = true ∨ (as.any fun a=>a.cells.any (lentC [])) = false) (n : ∀ vs,P vs → wpL G R nt l Q (updO σ dd (resV vs)) hp ct) :
  wpL G R nt (.op dd none (.call f args { give:=[],ad:=[],pure:=true }) :: l) Q σ hp ct:=by
 obtain ⟨vs,h1,h2⟩:=hc (as.any fun a=>a.cells.any (lentC [])) (fun h=>by rcases hl with hl | hl; exact hl; rw [hl] at h; simp at h);exact k_op (opK_pure ha.ev.1 ha.ev.2 h1) (n vs h2)

theorem k_meth {dd : Option Nat} {f b g : Nat} {x : Opd} {args : List Opd} {as as' : List A1} {cells : List IV} {P : List A1 → List IV → Prop} (hx : evσ nt σ x = .v (.c (.r (.ptr b g 0)))) (hb : hp.get b = some (.cells g (cells.map I))) (ha : ArgsP nt σ hp [b] args as as') (hi : as.all A1.inl = true)
  (hc : meth R f (IV.retags 1 cells) as' P) (n : ∀ vs cells' hp',P vs cells' → hp'.get b = some (.cells g (cells'.map I)) → Fr [b] hp hp' → wpL G R nt l Q (updO σ dd (resV vs)) hp' (ct + 1)) :
  wpL G R nt (.op dd none (.call f (x :: args) { give:=[],ad:=[],pure:=false }) :: l) Q σ hp ct:=by
 obtain ⟨rs,h,cs2,vs,cells',h1,h2,h3,h4,h5⟩:=hc;have ht : ∀ c : List IV,traverse (toC false hp [b]) (c.map I) = some ((IV.retags 1 c).map I):=by
  intro c;induction c with
  | nil=>rfl
  | cons v c ih=>simp only [List.map_cons,traverse_cons,toC,toR,Option.map_some,ih,IV.retags]
 refine k_op (call_ptr (by rw [traverse_cons,hx,ha.ev.1]; rfl) hi ha.ev.2 hb (ht cells) h1 h2 (h3 b g) (h4 b g)) (n vs cells' _ h5 (by rw [Heap.get_set]; simp) (Fr.set _ _ _))

end

/- Loops. -/
section
variable {S E : Type}
def loopF (step : S → Option (S ⊕ E)) : Nat → S → Option E
  | 0,_=>none
  | n + 1,s=>match step s with
    | none=>none
    | some (.inl s')=>loopF step n s'
    | some (.inr e)=>some e
theorem loopF_mono {step : S → Option (S ⊕ E)} : ∀ {n m : Nat} {s : S} {e : E},n ≤ m → loopF step n s = some e → loopF step m s = some e
 | 0,_,_,_,_,h=>by simp [loopF] at h
 | n + 1,0,_,_,h,_=>by omega
 | n + 1,m + 1,s,e,h,k=>by
  simp only [loopF] at k ⊢
  split at k
  ·simp at k
  ·exact loopF_mono (by omega) k
  ·exact k
noncomputable def loopO (step : S → Option (S ⊕ E)) (s : S) : Option E :=
  open Classical in if h : ∃ e n,loopF step n s = some e then some h.choose else none
theorem loopO_of {step : S → Option (S ⊕ E)} {n : Nat} {s : S} {e : E} (h : loopF step n s = some e) : loopO step s = some e:=by
 have hex : ∃ e n,loopF step n s = some e:=⟨e,n,h⟩;unfold loopO;rw [dif_pos hex];obtain ⟨m,hm⟩:=hex.choose_spec;have h1:=loopF_mono (Nat.le_max_left n m) h;have h2:=loopF_mono (Nat.le_max_right n m) hm;rw [h1] at h2;exact h2.symm
theorem loopO_ex {step : S → Option (S ⊕ E)} {s : S} {e : E} (h : loopO step s = some e) : ∃ n,loopF step n s = some e:=by
 unfold loopO at h;split at h
 ·rename_i hex
  have h:=Option.some.inj h;rw [← h]; exact hex.choose_spec
 ·simp at h
theorem loopO_eq (step : S → Option (S ⊕ E)) (s : S) : loopO step s = match step s with
  | none=>none
  | some (.inl s')=>loopO step s'
  | some (.inr e)=>some e:=by
 apply Option.ext
 intro e
 constructor
 ·intro h
  obtain ⟨n,h⟩:=loopO_ex h
  cases n with
  | zero=>simp [loopF] at h
  | succ n =>
   simp only [loopF] at h
   split at h
   ·simp at h
   ·exact loopO_of h
   ·exact h
 ·intro h
  split at h
  ·simp at h
  ·rename_i s' hs
   obtain ⟨n,h⟩:=loopO_ex h
   exact loopO_of (n:=n + 1) (by simp only [loopF,hs]; exact h)
  ·rename_i e' hs
   exact loopO_of (n:=1) (by simp only [loopF,hs]; exact h)

def lpost (I : S → Sl → Heap → Nat → Prop) (X : E → Ex → Sl → Heap → Nat → Prop) : S ⊕ E → Ex → Sl → Heap → Nat → Prop
  | .inl s,ex,σ,hp,ct=>ex = .normal ∧ I s σ hp ct
  | .inr e,ex,σ,hp,ct=>ex ≠ .normal ∧ X e ex σ hp ct

theorem e_loop {nt : Nat} {σ : Sl} {hp : Heap} {ct : Nat} {G : Nat → List IV} {R : Run} {step : S → Option (S ⊕ E)} {s0 : S} {e : E} {a : IR} (h : loopO step s0 = some e) (I : S → Sl → Heap → Nat → Prop) (X : E → Ex → Sl → Heap → Nat → Prop) (h0 : I s0 σ hp ct)
  (hs : ∀ s o σ hp ct,step s = some o → I s σ hp ct → wpE G R nt a σ hp ct (lpost I X o)) : wpE G R nt (.loop a) σ hp ct (X e):=by
 obtain ⟨n,hn⟩:=loopO_ex h;have hm : ∀ n s σ hp ct,I s σ hp ct → loopF step n s = some e → wpE G R nt (.loop a) σ hp ct (X e):=by
  intro n;induction n with
  | zero=>intro s σ hp ct _ h; simp [loopF] at h
  | succ n ih =>
   intro s σ hp ct hI h;simp only [loopF] at h;split at h
   ·simp at h
   ·rename_i s' hst
    obtain ⟨k,ex,σ',hp',ct',h1,rfl,h2⟩:=hs s _ σ hp ct hst hI;obtain ⟨k2,ex2,σ2,hp2,ct2,h3,h4⟩:=ih s' σ' hp' ct' h2 h;refine ⟨max k k2 + 1,ex2,σ2,hp2,ct2,?_,h4⟩;simp only [exec,loopN] at h3 ⊢;rw [exec_mono R.le_refl (by omega : k ≤ max k k2 + 1) h1];exact loopN_mono (fun s r h=>exec_mono R.le_refl (by omega : k2 ≤ max k k2 + 1) h) (Nat.le_max_right k k2) h3
   ·rename_i e' hst
    obtain ⟨k,ex,σ',hp',ct',h1,h5,h2⟩:=hs s _ σ hp ct hst hI;have h:=Option.some.inj h;subst h;refine ⟨k + 1,ex,σ',hp',ct',?_,h2⟩;simp only [exec,loopN];rw [exec_mono R.le_refl (by omega : k ≤ k + 1) h1];cases ex with
    | normal=>exact absurd rfl h5
    | _=>rfl
 exact hm n s0 σ hp ct h0 hn
end

section
variable {nt : Nat} {σ : Sl} {hp : Heap} {ct : Nat} {G : Nat → List IV} {R : Run} {Q : Ex → Sl → Heap → Nat → Prop}
theorem e_reg {l : List Ins} {b : IR} (h : wpL G R nt l (fun σ hp ct=>wpE G R nt b σ hp ct Q) σ hp ct) : wpE G R nt (.seq (.reg l) b) σ hp ct Q:=wpE_seq (wp_reg h)
theorem e_regD {l : List Ins} {pre : List (List Nat)} {b : IR} (hd : drawStatic l pre = true) (hf : drawFree l pre = true) (h : wpL G R nt l (fun σ hp ct=>wpE G R nt b σ hp ct Q) σ hp ct) : wpE G R nt (.seq (.regD l pre) b) σ hp ct Q:=wpE_seq (wp_regD hd hf h)
theorem e_last {l : List Ins} (h : wpL G R nt l (fun σ hp ct=>Q .normal σ hp ct) σ hp ct) : wpE G R nt (.reg l) σ hp ct Q:=wp_reg h

theorem fn_pure {F : Nat → Option Fn} {X : Run} {f : Nat} {fn : Fn} (hf : F f = some fn) {args : List A1} (hn : args.length ≤ fn.nt) {fr : Bool} {P : List A1 → Prop}
  (h : ∀ lent,(lent = true → fr = true) → wpE G (lim G F X) fn.nt fn.body (ini args) [] 1 (atEnd fn.nt fn.res (fin lent P))) : pc (lim G F X) f args fr P:=by
 intro lent hl;obtain ⟨rs,hp,h1,vs,h2,h3⟩:=fn_wp (bs:=[]) hf hn (h lent hl);exact ⟨vs,by simp only [pureCall,h1,h2],h3⟩
theorem fn_meth {F : Nat → Option Fn} {X : Run} {f : Nat} {fn : Fn} (hf : F f = some fn) {args : List A1} {cells : List IV} (hn : args.length + 1 ≤ fn.nt) {P : List A1 → List IV → Prop}
  (h : ∀ hp0,hp0.get PB = some (.cells 0 (cells.map I)) → wpE G (lim G F X) fn.nt fn.body (ini (.c (.r (.ptr PB 0 0)) :: args)) hp0 1 (atEnd fn.nt fn.res (finM P))) : meth (lim G F X) f cells args P:=by
 obtain ⟨rs,hp,h1,cs2,vs,cells',h2,h3,h4,h5⟩:=fn_wp (bs:=[.cells 0 (cells.map I)]) hf (args:=.c (.r (.ptr PB 0 0)) :: args) (by simpa using hn) (h _ (by simp [List.zipIdx]));exact ⟨rs,hp,cs2,vs,cells',h1,h2,h3,h4,h5⟩
theorem e_ret {res : List Res} {lent : Bool} {P : List A1 → Prop} {vs : List A1} (h : ResP nt σ hp [] lent res vs) (hP : P vs) : atEnd nt res (fin lent P) .ret σ hp ct:=by
 obtain ⟨rs,h1,h2⟩:=h.ev;exact ⟨rs,h1,vs,h2,hP⟩
theorem e_retM {res : List Res} {P : List A1 → List IV → Prop} {vs : List A1} {cells' : List IV} {cs2 : List AC} (hb : hp.get PB = some (.cells 0 cs2)) (hc : ∀ b g,BackP hp [(PB,b,g)] false cs2 cells') (h : ∀ b g,ResP nt σ hp [(PB,b,g)] false res vs) (hP : P vs cells') : atEnd nt res (finM P) .ret σ hp ct:=by
 obtain ⟨rs,h1,_⟩:=(h 0 0).ev;refine ⟨rs,h1,cs2,vs,cells',hb,fun b g=>(hc b g).ev,fun b g=>?_,hP⟩;obtain ⟨rs',h3,h4⟩:=(h b g).ev;rw [h1] at h3;have h3:=Option.some.inj h3;rw [h3]; exact h4
end

def bnd {α β : Type} (a : α) (f : α → β) : β:=f a
theorem bnd_e {α β : Type} {a : α} {f : α → β} {r : β} (h : bnd a f = r) : ∃ x,a = x ∧ f x = r:=⟨a,rfl,h⟩
def lret {E R β : Type} (o : Option (E ⊕ R)) (k : E → Option β) (w : R → Option β) : Option β:=match o with
  | none=>none
  | some (.inl e)=>k e
  | some (.inr r)=>w r
theorem lret_e {E R β : Type} {o : Option (E ⊕ R)} {k : E → Option β} {w : R → Option β} {b : β} (h : lret o k w = some b) : ∃ e,o = some e ∧ (match e with | .inl e=>k e | .inr r=>w r) = some b:=by
 cases o with
 | none=>simp [lret] at h
 | some e=>cases e with
  | inl e=>exact ⟨_,rfl,h⟩
  | inr r=>exact ⟨_,rfl,h⟩
theorem cgI {k : IntKind} {a b : Int} (h : a = b) : V (.int k a) = V (.int k b):=by rw [h]
theorem cgB {a b : Bool} (h : a = b) : V (.bool a) = V (.bool b):=by rw [h]
theorem cgS {a b : List UInt8} (h : a = b) : V (.str a) = V (.str b):=by rw [h]
theorem bt (b : Bool) : b = true ∨ b = false:=by cases b <;> simp
def kp (L : List Nat) (lo hi t : Nat) : Bool:=!(L.contains t) && (decide (t < lo) || decide (hi < t))
def Keep (L : List Nat) (lo hi : Nat) (σ σ' : Sl) : Prop:=∀ t,kp L lo hi t = true → σ' t = σ t
theorem Keep.refl (L : List Nat) (lo hi : Nat) (σ : Sl) : Keep L lo hi σ σ:=fun _ _=>rfl
theorem Keep.trans {L : List Nat} {lo hi : Nat} {σ σ' σ'' : Sl} (h : Keep L lo hi σ σ') (k : Keep L lo hi σ' σ'') : Keep L lo hi σ σ'':=fun t ht=>(k t ht).trans (h t ht)
theorem Keep.upd {L : List Nat} {lo hi : Nat} {σ σ' : Sl} (h : Keep L lo hi σ σ') {d : Nat} (hd : kp L lo hi d = false) (v : AV) : Keep L lo hi σ (upd σ' d v):=fun t ht=>by
 rw [upd_ne]; exact h t ht
 rintro rfl; rw [hd] at ht; simp at ht
theorem obind {α β : Type} {o : Option α} {f : α → Option β} {r : β} (h : o.bind f = some r) : ∃ y,o = some y ∧ f y = some r:=by
 cases o with
 | none=>simp at h
 | some y=>exact ⟨y,rfl,h⟩
theorem ctrue {α : Type} {p : Bool} {a b : α} {r : α} (h : (bif p then a else b) = r) (e : p = true) : a = r:=by subst e; exact h
theorem cfalse {α : Type} {p : Bool} {a b : α} {r : α} (h : (bif p then a else b) = r) (e : p = false) : b = r:=by subst e; exact h
theorem Keep.sub {L L2 : List Nat} {lo hi lo2 hi2 : Nat} {σ σ' : Sl} (h : Keep L2 lo2 hi2 σ σ') (hs : (L2.all (fun t=>!kp L lo hi t) && (decide (hi2 < lo2) || (decide (lo ≤ lo2) && decide (hi2 ≤ hi)))) = true) : Keep L lo hi σ σ':=by
 intro t ht;refine h t ?_;simp only [Bool.and_eq_true,Bool.or_eq_true,List.all_eq_true,decide_eq_true_eq] at hs;simp only [kp,Bool.and_eq_true,Bool.or_eq_true,decide_eq_true_eq,Bool.not_eq_true'] at ht ⊢;refine ⟨?_,?_⟩
 ·cases hc : L2.contains t with
  | false=>rfl
  | true =>
   have:=hs.1 t (by simpa using hc)
   simp only [kp,Bool.not_eq_true',Bool.and_eq_false_iff,Bool.or_eq_false_iff,decide_eq_false_iff_not] at this;rcases this with h1 | h1
   ·rw [ht.1] at h1; simp at h1
   ·omega
 ·rcases hs.2 with h2 | h2 <;> omega

theorem Fr.ext {H Q : List Nat} {a b c : Heap} (h : Fr H a b) (k : Fr Q b c) (hq : Q.all (H.contains ·) = true) : Fr H a c:=fun p hp =>
 (k p fun hin=>hp (by have:=List.all_eq_true.1 hq p hin; simpa using this)).trans (h p hp)

theorem idx_in {α : Type} {l : List α} {n : Int} {x : α} (h : idx l n = some x) : 0 ≤ n ∧ n < l.length:=by
 obtain ⟨h1,h2,_⟩:=idx_is h;exact ⟨h1,by omega⟩
theorem stoAll {α : Type} {E : Rep α} {f : Bool} {c ws : List IV} {u u' : α} (hc : E.rp f c u) (hw : E.rp f ws u') : E.rp f (c.take 0 ++ ws ++ c.drop (0 + ws.length)) u':=by
 have e : c.drop (0 + ws.length) = []:=List.drop_eq_nil_of_le (by rw [E.len hc,E.len hw]; omega);rw [e]; simpa using hw

def bytesStr (l : List Int) : List UInt8:=l.map fun n=>UInt8.ofNat n.toNat
def strInts (l : List UInt8) : List Int:=l.map fun c=>(c.toNat : Int)
def strBytes (l : List UInt8) : Option (List Int):=if l.length ≤ 1099511627776 then some (strInts l) else none

theorem rows_ints {k : IntKind} {f : Bool} : ∀ {l : List Int} {c : List IV},rows (Rep.int k) f c l → c = l.map (.int k)
 | [],c,h=>h
 | x :: l,c,h=>by
  obtain ⟨a,b,rfl,h1,h2⟩:=h
  obtain rfl : a = [.int k x]:=h1
  rw [rows_ints h2]; rfl
theorem ints_rows {k : IntKind} {f : Bool} : ∀ l : List Int,rows (Rep.int k) f (l.map (.int k)) l
 | []=>rfl
 | x :: l=>⟨[.int k x],_,rfl,rfl,ints_rows l⟩
theorem strInts_cells (s : List UInt8) : (s.map fun c=>I (.int .u8 c.toNat)) = ((strInts s).map (IV.int .u8)).map I:=by simp [strInts]

theorem byteOfs : ∀ xs : List Int,traverse byteOf ((xs.map (IV.int .u8)).map I) = some (bytesStr xs)
 | []=>rfl
 | x :: xs=>by simp only [List.map_cons,traverse_cons,byteOf,byteOfs xs]; rfl
section
variable {nt : Nat} {σ : Sl} {hp : Heap} {ct d : Nat} {G : Nat → List IV} {R : Run} {l : List Ins} {c : IR}
theorem gE {Q : Ex → Sl → Heap → Nat → Prop} (h : ∀ σ',σ' = σ → wpE G R nt c σ' hp ct Q) : wpE G R nt c σ hp ct Q:=h σ rfl
theorem gL {Q : Sl → Heap → Nat → Prop} (h : ∀ σ',σ' = σ → wpL G R nt l Q σ' hp ct) : wpL G R nt l Q σ hp ct:=h σ rfl

variable {Q : Sl → Heap → Nat → Prop}
theorem set_mk (t : Nat) (v : AV) (hp' : Heap) : ({ mkS nt σ hp ct with tm:=(mkS nt σ hp ct).tm.set t v,hp:=hp' } : St) = mkS nt (upd σ t v) hp' ct:=by
 have:=with_mk (nt:=nt) (σ:=σ) (hp:=hp) (ct:=ct) (some t) (v,hp',ct)
 simpa [St.with,St.put,updO,mkS_ct] using this
theorem k_frz {α : Type} {E : Rep α} {P : List Nat} {f : Bool} {t : Nat} {a : AC} {xs : List α} (hx : (mkS nt σ hp ct).get t = .v (.c a)) (hs : so P E f hp a xs) (hP : P.all (fun b=>decide (b < PB)) = true)
  (n : ∀ v hp',sv E f v xs → Fr P hp hp' → wpL G R nt l Q (upd σ t (V v)) hp' ct) : wpL G R nt (.frz t :: l) Q σ hp ct:=by
 simp only [wpL];rcases hs with ⟨rfl,rfl⟩ | ⟨rfl,rfl⟩ | ⟨b,g,off,cs,c,hb,rfl,h4,h5,h6,h7⟩
 ·refine ⟨upd σ t (V .nilS),hp,ct,?_,n _ _ (.inl ⟨rfl,rfl⟩) (Fr.refl _ _)⟩
  simp only [insI,hx];exact congrArg some (set_mk t (V .nilS) hp)
 ·refine ⟨upd σ t (V .emp),hp,ct,?_,n _ _ (.inr (.inl ⟨rfl,rfl⟩)) (Fr.refl _ _)⟩
  simp only [insI,hx];exact congrArg some (set_mk t (V .emp) hp)
 ·have hlt : b < PB:=by simpa using List.all_eq_true.1 hP b hb
  have hg : hp.get b = some (.cells g (cs.map I)):=(Heap.row_eq h4).1;have hch : (cs.map I).flatMap (refC true) = []:=by
   rw [List.flatMap_eq_nil_iff]; intro x hx'; simp at hx'; obtain ⟨v,_,rfl⟩:=hx'; rfl
  have hd : refDeep hp 3 [b] = [b]:=by simp [refDeep,hg,hch]
  refine ⟨upd σ t (V (.lit 0 c xs.length)),delAll hp [b],ct,?_,n _ _ (.inr (.inr ⟨0,c,rfl,h5,fun _=>rfl⟩)) (fun q hq=>?_)⟩
  ·have hr : rd (fun x=>[b].contains x) hp 0 rdDepth (.r (.sl b g off E.sz xs.length)) = some (.lit 0 c xs.length):=rd_rows (n:=5) (by simp) h4 h6 h7
   have hbs : (refDeep hp 3 [b]).filter (fun x=>decide (x < PB)) = [b]:=by rw [hd]; simp [hlt]
   simp only [insI,hx,A1.cells,List.flatMap_cons,List.flatMap_nil,refC,refR,if_true,List.append_nil,mkS_hp,hbs,traverse_cons,traverse_nil,hr];exact congrArg some (set_mk t _ _)
  ·rw [Heap.get_delAll,if_neg]; simp; rintro rfl; exact hq hb
theorem k_movT {x : Opd} {a : List A1} (h : evσ nt σ x = .tup a) (n : wpL G R nt l Q (upd σ d (.tup a)) hp ct) : wpL G R nt (.op (some d) none (.mov x) :: l) Q σ hp ct:=k_op (by rw [x_mov,h]; rfl) n
theorem k_cvBS {P : List Nat} {f : Bool} {x : Opd} {a : AC} {xs : List Int} (hx : evσ nt σ x = .v (.c a)) (hs : sa P (Rep.int .u8) f hp a xs) (n : wpL G R nt l Q (upd σ d (V (.str (bytesStr xs)))) hp ct) : wpL G R nt (.op (some d) none (.cvBS x) :: l) Q σ hp ct:=by
 obtain ⟨c,hc,hcs⟩:=hs.cells;have hstr : isStrC a = false:=by
  rcases hs with ⟨v,rfl,⟨rfl,rfl⟩ | ⟨rfl,rfl⟩ | ⟨t,c,rfl,h4,h5⟩⟩ | ⟨rfl,rfl⟩ | ⟨rfl,rfl⟩ | ⟨b,g,off,cs,c,hb,rfl,h4⟩ <;> rfl
 refine k_op (v:=V (.str (bytesStr xs))) (hp':=hp) (ct':=ct) ?_ n;have hcs : slCells hp 1 a = some (c.map I,xs.length):=hcs;have key : traverse byteOf (c.map I) = some (bytesStr xs):=by rw [rows_ints hc]; exact byteOfs xs
 simp only [opK,step,ev_mk,hx,hstr,mkS_hp,Bool.false_eq_true,if_false,hcs,key,okv,Option.map_some,mkS_ct]
theorem k_cvSB {f : Bool} {x : Opd} {s : List UInt8} {z : List Int} (hx : evσ nt σ x = V (.str s)) (e : strBytes s = some z) (n : ∀ a' hp',so [d] (Rep.int .u8) f hp' a' z → Fr [d] hp hp' → wpL G R nt l Q (upd σ d (.v (.c a'))) hp' (ct + 1)) : wpL G R nt (.op (some d) none (.cvSB x) :: l) Q σ hp ct:=by
 unfold strBytes at e;split at e
 ·rename_i hb
  have e:=Option.some.inj e;subst e;have hl : (strInts s).length = s.length:=by simp [strInts]
  refine k_op (v:=.v (.c (.r (.sl d ct 0 1 s.length)))) (hp':=hp.set d (.cells ct (s.map fun c=>I (.int .u8 c.toNat)))) (ct':=ct + 1) ?_
   (n _ _ (.inr (.inr ⟨d,ct,0,(strInts s).map (IV.int .u8),(strInts s).map (IV.int .u8),by simp,by rw [hl]; rfl,by rw [strInts_cells]; simp [Heap.row,Heap.get_set],ints_rows _,?_,?_⟩)) (Fr.set _ _ _))
  ·simp only [opK,step,ev_mk,hx,AV.strv,V,hb,if_true,mkS_hp,mkS_ct]; rfl
  ·rw [hl]; simp [Rep.int,hl]
  ·rw [hl,List.drop_zero,List.take_of_length_le]; simp [Rep.int,hl]
 ·simp at e


theorem sa.backM {α : Type} {P : List Nat} {E : Rep α} {f : Bool} {a : AC} {xs : List α} (h : sa P E f hp a xs) (hP : (!P.contains PB) = true) : ∃ v,(∀ b g,backC hp [(PB,b,g)] false a = some (I v)) ∧ sv E f v xs:=by
 have hpl : ∀ b g,P.all (fun q=>(backAt [(PB,b,g)] q).isNone) = true:=by
  intro b g;rw [List.all_eq_true];intro q hq;have : PB ≠ q:=by rintro rfl; simp [hq] at hP
  simp [backAt,this]
 obtain ⟨v,h1,h2⟩:=h.back false (fun q=>nomatch q) [(PB,0,0)] (hpl 0 0);refine ⟨v,fun b g=>?_,h2⟩;obtain ⟨v',h3,h4⟩:=h.back false (fun q=>nomatch q) [(PB,b,g)] (hpl b g);rw [h3]
 -- the same reading
 have e : backC hp [(PB,b,g)] false a = backC hp [(PB,0,0)] false a:=by
  rcases h with ⟨v,rfl,h⟩ | ⟨rfl,rfl⟩ | ⟨rfl,rfl⟩ | ⟨b',g',off,cs,c,hb,rfl,h2,h3,h4,h5⟩
  ·rfl
  ·rfl
  ·rfl
  ·have hne : PB ≠ b':=by rintro rfl; simp [hb] at hP
   have q : (fun x=>(backAt [(PB,b,g)] x).isNone) = fun x=>(backAt [(PB,0,0)] x).isNone:=by funext x; simp only [backAt]; split <;> rfl
   have h0 : backAt [(PB,b,g)] b' = none:=by simp [backAt,hne]
   have h1 : backAt [(PB,0,0)] b' = none:=by simp [backAt,hne]
   simp only [backC,backR,h0,h1,q]
 rw [h3,h1] at e;exact e
end

/- Whole runs. -/
def isTrue1 : Option (List A1 × Heap) → Bool
  | some ([.c (.r (.i (.bool true)))],_)=>true
  | _=>false
theorem pc_true {G : Nat → List IV} {F : Nat → Option Fn} {X : Run} {f n d : Nat} {as : List A1} {fr : Bool} (h : isTrue1 (run G F X n d f as []) = true) : pc (lim G F X) f as fr (fun vs=>vs = [.c (I (.bool true))]):=by
 intro lent _;unfold isTrue1 at h;split at h
 ·rename_i hp e
  exact ⟨_,by simp only [pureCall,lim_of e,traverse_cons,back_sc (show (IV.bool true).fresh = true from rfl),traverse_nil],rfl⟩
 ·simp at h
def nums (b : Bool) (l : List Int) : IV:=if b then .nilS else .lit 1 (l.map (.int .i64)) l.length
theorem sv_nums {b : Bool} {l : List Int} (h : b = true → l = []) : sv (Rep.int .i64) false (nums b l) l:=by
 cases b with
 | true=>rw [h rfl]; exact .inl ⟨rfl,rfl⟩
 | false=>exact .inr (.inr ⟨1,_,rfl,ints_rows _,by simp⟩)
theorem pc_law {R : Run} {f : Nat} {as : List A1} {fr : Bool} {P : List A1 → Prop} (h : pc R f as fr P) (hP : ∀ vs,P vs → vs = [.c (I (.bool true))]) : ∃ hp,R f as [] = some ([.c (I (.bool true))],hp):=by
 obtain ⟨vs,h1,h2⟩:=h false (fun q=>nomatch q);obtain rfl:=hP vs h2;unfold pureCall at h1;split at h1
 ·rename_i rs hp e
  refine ⟨hp,?_⟩;rw [e];cases rs with
  | nil=>simp at h1
  | cons a rs =>
   rw [traverse_cons] at h1;split at h1
   ·simp at h1
   ·rename_i b hb
    cases rs with
    | cons c rs =>
     rw [traverse_cons] at h1;split at h1
     ·simp at h1
     ·rename_i bs hbs
      split at hbs
      ·simp at hbs
      ·split at hbs
       ·simp at hbs
       ·have:=Option.some.inj h1; have hbs:=Option.some.inj hbs; subst hbs; simp at this
    | nil =>
     simp only [traverse_nil] at h1;obtain rfl : b = .c (I (.bool true)):=by simpa using h1
     cases a with
     | agg xs =>
      simp only [back1] at hb;cases hq : traverse (backC hp [] false) xs <;> rw [hq] at hb <;> simp at hb
     | c x =>
      simp only [back1] at hb;cases x with
      | clo g cs =>
       simp only [backC] at hb;cases hq : traverse (backR hp [] false) cs <;> rw [hq] at hb <;> simp at hb
       unfold mkClo at hb; split at hb <;> simp at hb
      | r a =>
       cases a with
       | i v=>simp [backC,backR] at hb; rw [hb]
       | ptr b g off=>simp [backC,backR,backAt] at hb
       | map b g=>simp [backC,backR,backAt] at hb
       | sl b g off sz len =>
        simp only [backC,backR,backAt] at hb;split at hb
        ·rename_i v hv
         simp only [rdDepth,rd,if_true,Option.isNone_none] at hv;simp at hb;split at hv
         ·simp at hv
         ·split at hv
          ·split at hv
           ·simp at hv
           ·have hv:=Option.some.inj hv; subst hv; simp at hb
          ·simp at hv
        ·simp at hb
 ·simp at h1
inductive Tg where
  | n
  | t (S : List Nat)
  | r (S : List Nat)
def Tg.isT : Tg → Bool
  | .t _=>true
  | _=>false

def Dep (Rs : List Nat) (G : Nat → List IV) (R : Run) (s : St) (x : Ins) : Prop:=match x with
  | .op d g k=>∀ h ct,(∀ b ∈ Rs,h.get b = s.hp.get b) → ∀ r,insV G R s d g k = some r → ∃ r',insV G R { s with hp:=h,ct:=ct } d g k = some r' ∧ r'.1 = r.1
  | _=>False

def wpT (G : Nat → List IV) (R : Run) (nt : Nat) : List (Ins × Tg) → (Sl → Heap → Nat → Prop) → Sl → Heap → Nat → Prop
  | [],Q,σ,hp,ct=>Q σ hp ct
  | (x,tg) :: l,Q,σ,hp,ct=>wpL G R nt [x] (fun σ' hp' ct'=>(match tg with | .t S=>Fr S hp hp' | _=>True) ∧ wpT G R nt l Q σ' hp' ct') σ hp ct ∧ (match tg with | .r S=>Dep S G R (mkS nt σ hp ct) x | _=>True)

def fpsOf : List (Ins × Tg) → List (List Nat)
  | []=>[]
  | (_,.t S) :: l=>S :: fpsOf l
  | (_,_) :: l=>fpsOf l

def drawTag (L : List (Ins × Tg)) (pre : List (List Nat)) : Bool :=
  let l:=L.map Prod.fst
  (L.all fun p=>p.1.isOp && (p.1.turns == p.2.isT)) && (List.range L.length).all fun i=>match L[i]? with
    | some (_,.t _)=>true
    | some (x,.n)=>loOf l pre i == hiOf l pre i || x.memless
    | some (_,.r Rs)=>(List.range (hiOf l pre i - loOf l pre i)).all fun t=>match (fpsOf L)[loOf l pre i + t]? with
      | some S=>S.all fun b=>!Rs.contains b
      | none=>false
    | none=>false

def FrCh (fps : List (List Nat)) (hs : List (Heap × Nat)) : Prop:=∀ t S m m',fps[t]? = some S → hs[t]? = some m → hs[t + 1]? = some m' → Fr S m.1 m'.1

section
variable {G : Nat → List IV} {R : Run} {nt : Nat}

theorem wpT_trail : ∀ {L : List (Ins × Tg)} {σ : Sl} {hp : Heap} {ct : Nat} {Q : Sl → Heap → Nat → Prop},(L.all fun p=>p.1.isOp && (p.1.turns == p.2.isT)) = true → wpT G R nt L Q σ hp ct →
  ∃ ss hs,trail G R (L.map Prod.fst) (mkS nt σ hp ct) = some (ss,hs) ∧ FrCh (fpsOf L) hs ∧ (∀ (i : Nat) (x : Ins) (Rs : List Nat) (s : St),L[i]? = some (x,Tg.r Rs) → ss[i]? = some s → Dep Rs G R s x) ∧ ∃ σ' hp' ct',ss.getLast? = some (mkS nt σ' hp' ct') ∧ Q σ' hp' ct'
 | [],σ,hp,ct,Q,_,h=>⟨[mkS nt σ hp ct],[(hp,ct)],rfl,fun t S m m' h=>by simp [fpsOf] at h,fun i x Rs s h=>by simp at h,σ,hp,ct,rfl,h⟩
 | (x,tg) :: L,σ,hp,ct,Q,ha,h=>by
  simp only [List.all_cons,Bool.and_eq_true,beq_iff_eq] at ha
  obtain ⟨⟨hop,htn⟩,ha⟩:=ha
  obtain ⟨h,hdep⟩:=h
  obtain ⟨σ1,hp1,ct1,e1,hfr,h⟩:=wpL_sound h
  obtain ⟨ss,hs,e2,c2,d2,σ',hp',ct',l2,q2⟩:=wpT_trail ha h
  have e1 : insI G R (mkS nt σ hp ct) x = some (mkS nt σ1 hp1 ct1):=by
   simp only [insL] at e1
   split at e1
   ·rename_i s hs'; rw [hs']; exact e1
   ·simp at e1
  have hall : ∀ y ∈ L.map Prod.fst,y.isOp = true:=by
   intro y hy
   obtain ⟨p,hp,rfl⟩:=List.mem_map.1 hy
   exact (by simpa using List.all_eq_true.1 ha p hp : p.1.isOp = true ∧ _).1
  have C:=Canon.of hall e2
  have h0 : hs[0]? = some (hp1,ct1):=by
   have:=C.mem 0 _ (Nat.zero_le _) C.at0
   have hz : cntS (L.map Prod.fst) (ltS 0) = 0:=by simp [cntS,ltS]
   rw [hz] at this; exact this
  refine ⟨mkS nt σ hp ct :: ss,if x.turns then ((mkS nt σ hp ct).hp,(mkS nt σ hp ct).ct) :: hs else hs,?_,?_,?_,σ',hp',ct',?_,q2⟩
  ·simp only [List.map_cons,trail,e1,e2]
  ·cases tg with
   | t S =>
    simp only [Tg.isT] at htn
    rw [htn]
    simp only [fpsOf,if_true]
    intro t S' m m' h1 h2 h3
    cases t with
    | zero =>
     simp at h1 h2 h3
     subst h1; subst h2
     rw [h0] at h3
     have h3:=Option.some.inj h3
     subst h3
     exact hfr
    | succ t=>exact c2 t S' m m' (by simpa using h1) (by simpa using h2) (by simpa using h3)
   | n=>simp only [Tg.isT] at htn; rw [htn]; exact c2
   | r S=>simp only [Tg.isT] at htn; rw [htn]; exact c2
  ·intro i y Rs s h1 h2
   cases i with
   | zero=>simp at h1 h2; obtain ⟨rfl,rfl⟩:=h1; subst h2; exact hdep
   | succ i=>exact d2 i y Rs s (by simpa using h1) (by simpa using h2)
  ·cases ss with
   | nil=>simp at l2
   | cons a b=>simpa using l2

theorem chain_get {fps : List (List Nat)} {hs : List (Heap × Nat)} (hc : FrCh fps hs) {Rs : List Nat} {a : Nat} : ∀ (d : Nat) {m m' : Heap × Nat},(∀ t,t < d → ∃ S,fps[a + t]? = some S ∧ ∀ b ∈ Rs,b ∉ S) → hs[a]? = some m → hs[a + d]? = some m' → ∀ b ∈ Rs,m'.1.get b = m.1.get b
 | 0,m,m',_,h1,h2,b,_=>by rw [Nat.add_zero,h1] at h2; rw [Option.some.inj h2]
 | d + 1,m,m',hf,h1,h2,b,hb=>by
  have hlt:=(List.getElem?_eq_some_iff.1 h2).1
  obtain ⟨m1,hm1⟩ : ∃ m1,hs[a + d]? = some m1:=⟨hs[a + d]'(by omega),by simp⟩
  have ih:=chain_get hc d (fun t ht=>hf t (by omega)) h1 hm1 b hb
  obtain ⟨S,hS,hn⟩:=hf d (by omega)
  rw [← ih]
  exact hc (a + d) S m1 m' hS hm1 h2 b (hn b hb)

theorem drawDyn_tag {L : List (Ins × Tg)} {pre : List (List Nat)} (hf : drawTag L pre = true) (hd : Draw (L.map Prod.fst) pre) {s : St} {ss : List St} {hs : List (Heap × Nat)} (ht : trail G R (L.map Prod.fst) s = some (ss,hs)) (hc : FrCh (fpsOf L) hs)
  (hdep : ∀ (i : Nat) (x : Ins) (Rs : List Nat) (s : St),L[i]? = some (x,Tg.r Rs) → ss[i]? = some s → Dep Rs G R s x) : drawDyn G R (L.map Prod.fst) pre ss hs = true:=by
 simp only [drawTag,Bool.and_eq_true,List.all_eq_true,List.mem_range] at hf;obtain ⟨hall,hf⟩:=hf;have hop : ∀ y ∈ L.map Prod.fst,y.isOp = true:=by
  intro y hy;obtain ⟨p,hp,rfl⟩:=List.mem_map.1 hy;exact (hall p hp).1
 have C:=Canon.of hop ht;have htot : ∀ c,c ≤ cntS (L.map Prod.fst) (ltS (L.map Prod.fst).length) → ∃ m,hs[c]? = some m:=by
  intro c hc;have hn : ss[(L.map Prod.fst).length]? = some (ss[(L.map Prod.fst).length]'(by rw [C.len]; omega)):=by simp [C.len]
  have:=C.mem _ _ (Nat.le_refl _) hn
  have hlt:=(List.getElem?_eq_some_iff.1 this).1;exact ⟨hs[c]'(by omega),by simp⟩
 simp only [drawDyn,List.all_eq_true,List.mem_range];intro i hi;have hi' : i < L.length:=by simpa using hi
 have hfi:=hf i hi';obtain ⟨p,hp⟩ : ∃ p,L[i]? = some p:=⟨L[i],by simp [hi']⟩;obtain ⟨x,tg⟩:=p;have hx : (L.map Prod.fst)[i]? = some x:=by simp [hp]
 obtain ⟨s1,s2,h1,h2,h3⟩:=C.step i x hx;have htn : x.turns = tg.isT:=by
  have:=(hall (x,tg) (List.mem_of_getElem? hp)).2
  simpa using this
 have hm1:=C.mem i s1 (by omega) h1;have hlo : loOf (L.map Prod.fst) pre i ≤ cntS (L.map Prod.fst) (ltS i):=cntS_mono fun j hj hp=>by
  have:=hd.lt i j hp; simp [ltS,this]
 have hhi : cntS (L.map Prod.fst) (ltS i) ≤ hiOf (L.map Prod.fst) pre i:=cntS_mono fun j hj hp=>by
  simp [ltS] at hp;cases hq : preHas pre j i with
  | false=>rfl
  | true=>have:=hd.lt j i hq; omega
 have hhi2 : hiOf (L.map Prod.fst) pre i ≤ cntS (L.map Prod.fst) (ltS (L.map Prod.fst).length):=by
  unfold hiOf;refine cntS_mono fun j hj _=>?_;unfold turnAt at hj;split at hj
  ·rename_i y hy
   have:=(List.getElem?_eq_some_iff.1 hy).1
   simp only [ltS,decide_eq_true_eq]; exact this
  ·simp at hj
 simp only [hx,h1,Bool.or_eq_true,beq_iff_eq,List.all_eq_true,List.mem_range];rw [hp] at hfi;cases tg with
 | t S=>exact .inl htn
 | n =>
  simp only [Bool.or_eq_true,beq_iff_eq] at hfi;rcases hfi with h | h
  ·exact .inr (.inl h)
  ·refine .inr (.inr fun c hc=>?_)
   obtain ⟨d,g,k,rfl⟩:=hd.op i x hx;obtain ⟨m,hm⟩:=htot (loOf (L.map Prod.fst) pre i + c) (by omega);rw [hm];simp only [insI] at h3;split at h3
   ·rename_i r hr
    obtain ⟨r',hr',he⟩:=insV_memless (s:=s1) (s':={ s1 with hp:=m.1,ct:=m.2 }) rfl h hr;simp only [stableAt,hr,hr',he,eqAV_refl]
   ·simp at h3
 | r Rs =>
  simp only [List.all_eq_true,List.mem_range] at hfi;refine .inr (.inr fun c hc'=>?_);obtain ⟨d,g,k,rfl⟩:=hd.op i x hx;obtain ⟨m,hm⟩:=htot (loOf (L.map Prod.fst) pre i + c) (by omega);rw [hm];simp only [insI] at h3;split at h3
  ·rename_i r hr
   have hdp:=hdep i _ Rs s1 hp h1;have hS : ∀ t,loOf (L.map Prod.fst) pre i ≤ t → t < hiOf (L.map Prod.fst) pre i → ∃ S,(fpsOf L)[t]? = some S ∧ ∀ b ∈ Rs,b ∉ S:=by
    intro t ht1 ht2
    have:=hfi (t - loOf (L.map Prod.fst) pre i) (by omega)
    rw [show loOf (L.map Prod.fst) pre i + (t - loOf (L.map Prod.fst) pre i) = t by omega] at this;split at this
    ·rename_i S hS
     refine ⟨S,hS,fun b hb hin=>?_⟩
     have:=List.all_eq_true.1 this b hin
     simp [hb] at this
    ·simp at this
   have hag : ∀ b ∈ Rs,m.1.get b = s1.hp.get b:=by
    intro b hb;rcases Nat.le_total (cntS (L.map Prod.fst) (ltS i)) (loOf (L.map Prod.fst) pre i + c) with hle | hle
    ·exact chain_get hc (Rs:=Rs) (a:=cntS (L.map Prod.fst) (ltS i)) (loOf (L.map Prod.fst) pre i + c - cntS (L.map Prod.fst) (ltS i)) (fun t ht=>hS _ (by omega) (by omega)) hm1 (by rw [show cntS (L.map Prod.fst) (ltS i) + (loOf (L.map Prod.fst) pre i + c - cntS (L.map Prod.fst) (ltS i)) = loOf (L.map Prod.fst) pre i + c by omega]; exact hm) b hb
    ·exact (chain_get hc (Rs:=Rs) (a:=loOf (L.map Prod.fst) pre i + c) (cntS (L.map Prod.fst) (ltS i) - (loOf (L.map Prod.fst) pre i + c)) (fun t ht=>hS _ (by omega) (by omega)) hm (by rw [show loOf (L.map Prod.fst) pre i + c + (cntS (L.map Prod.fst) (ltS i) - (loOf (L.map Prod.fst) pre i + c)) = cntS (L.map Prod.fst) (ltS i) by omega]; exact hm1) b hb).symm
   obtain ⟨r',hr',he⟩:=hdp m.1 m.2 hag r hr;simp only [stableAt,hr,hr',he,eqAV_refl]
  ·simp at h3

variable {σ : Sl} {hp : Heap} {ct : Nat}
theorem e_lastT {L : List (Ins × Tg)} {pre : List (List Nat)} {Q : Ex → Sl → Heap → Nat → Prop} (hd : drawStatic (L.map Prod.fst) pre = true) (hf : drawTag L pre = true) (h : wpT G R nt L (fun σ hp ct=>Q .normal σ hp ct) σ hp ct) : wpE G R nt (.regD (L.map Prod.fst) pre) σ hp ct Q:=by
 have hall : (L.all fun p=>p.1.isOp && (p.1.turns == p.2.isT)) = true:=by
  simp only [drawTag,Bool.and_eq_true] at hf; exact hf.1
 obtain ⟨ss,hs,e1,c1,d1,σ',hp',ct',l1,q1⟩:=wpT_trail hall h;exact wpE_regD' e1 (drawDyn_tag hf (Draw.of hd) e1 c1 d1) l1 q1

variable {L : List (Ins × Tg)} {Q : Sl → Heap → Nat → Prop} {x : Ins}
theorem t_nil (h : Q σ hp ct) : wpT G R nt [] Q σ hp ct:=h
theorem t_n (h : wpL G R nt [x] (fun σ' hp' ct'=>wpT G R nt L Q σ' hp' ct') σ hp ct) : wpT G R nt ((x,.n) :: L) Q σ hp ct:=⟨wpL_mono (fun _ _ _ h=>⟨trivial,h⟩) h,trivial⟩
theorem t_t {S : List Nat} (h : wpL G R nt [x] (fun σ' hp' ct'=>Fr S hp hp' ∧ wpT G R nt L Q σ' hp' ct') σ hp ct) : wpT G R nt ((x,.t S) :: L) Q σ hp ct:=⟨h,trivial⟩
theorem t_r {S : List Nat} (hd : Dep S G R (mkS nt σ hp ct) x) (h : wpL G R nt [x] (fun σ' hp' ct'=>wpT G R nt L Q σ' hp' ct') σ hp ct) : wpT G R nt ((x,.r S) :: L) Q σ hp ct:=⟨wpL_mono (fun _ _ _ h=>⟨trivial,h⟩) h,hd⟩

def lies (a : AC) (S : List Nat) : Prop:=match a with
  | .r (.ptr b _ _) | .r (.sl b _ _ _ _) | .r (.map b _)=>b ∈ S
  | .clo ..=>False
  | _=>True
theorem sa.lies {α : Type} {P : List Nat} {E : Rep α} {f : Bool} {a : AC} {xs : List α} (h : sa P E f hp a xs) : lies a P:=by
 rcases h with ⟨v,rfl,_⟩ | ⟨rfl,rfl⟩ | ⟨rfl,rfl⟩ | ⟨b,g,off,cs,c,hb,rfl,_⟩
 ·trivial
 ·trivial
 ·trivial
 ·exact hb
theorem ep.lies {P : List Nat} {a : AC} {cells : List AC} (h : ep P G hp a cells) : lies a P:=by
 rcases h.2 with ⟨b,g,off,hb,rfl⟩ | ⟨v,rfl⟩
 ·exact hb
 ·trivial

theorem eo.lies {α : Type} {P : List Nat} {E : Rep α} {f : Bool} {a p : AC} {xs : List α} {n : Nat} (h : eo P E f hp a xs p n) : lies p P:=by
 obtain ⟨b,g,off,cs,c,hb,_,rfl,_⟩:=h;exact hb
theorem dep_op {S : List Nat} {d : Option Nat} {k : K} (hk : ∀ h c,(∀ b ∈ S,h.get b = hp.get b) → ∀ r,opK G R (mkS nt σ hp ct) (d.getD 0) k = some r → ∃ r',opK G R (mkS nt σ h c) (d.getD 0) k = some r' ∧ r'.1 = r.1) : Dep S G R (mkS nt σ hp ct) (.op d none k):=by
 intro h c hag r hr;have e : insV G R (mkS nt σ hp ct) d none k = opK G R (mkS nt σ hp ct) (d.getD 0) k:=rfl;rw [e] at hr;exact hk h c hag r hr
theorem row_ag {h : Heap} {b : Nat} (e : h.get b = hp.get b) (g : Nat) : h.row b g = hp.row b g ∧ h.cur b = hp.cur b:=by simp [Heap.row,Heap.cur,e]
theorem dep_load {S : List Nat} {d : Option Nat} {m : Nat} {agg : Bool} {x : Opd} {a : AC} (hx : evσ nt σ x = .v (.c a)) (ha : lies a S) : Dep S G R (mkS nt σ hp ct) (.op d none (.load m agg x)):=dep_op fun h c hag r hr=>by
 have e : lookAt G h a = lookAt G hp a:=by
  cases a with
  | clo=>exact ha.elim
  | r a=>cases a with
   | ptr b g off=>simp only [lookAt,(row_ag (hag b ha) g).1]
   | i v=>cases v <;> rfl
   | sl=>rfl
   | map=>rfl
 rw [x_load,hx] at hr ⊢;simp only [e] at hr ⊢;split at hr
 ·rename_i cs hcs
  split at hr
  ·rename_i cs' hcs'
   cases hq : mk1 agg cs' with
   | none=>rw [hq] at hr; simp at hr
   | some v=>rw [hq] at hr; simp at hr; subst hr; simp
  ·simp at hr
 ·simp at hr
def iadrF (sz : Nat) (hp : Heap) (ct : Nat) (a : AC) (n : Option Nat) : Option (AV × Heap × Nat):=match a,n with
    | .r (.sl b g off sz' len),some i=>if sz' = sz ∧ i < len ∧ hp.cur b = some g then some (.v (.c (.r (.ptr b g (off + i * sz)))),hp,ct) else none
    | .r (.i (.lit t cs len)),some i=>if i < len ∧ cs.length = len * sz then some (V (.lp t ((cs.drop (i * sz)).take sz)),hp,ct) else none
    | _,_=>none
theorem dep_iadr {S : List Nat} {d : Option Nat} {sz : Nat} {x i : Opd} {a : AC} (hx : evσ nt σ x = .v (.c a)) (ha : lies a S) : Dep S G R (mkS nt σ hp ct) (.op d none (.iadr sz x i)):=dep_op fun h c hag r hr=>by
 have e : ∀ (hp : Heap) (ct : Nat),opK G R (mkS nt σ hp ct) (d.getD 0) (.iadr sz x i) = iadrF sz hp ct a (evσ nt σ i).nat:=by
  intro hp ct;rw [x_iadr,hx];unfold iadrF;generalize (evσ nt σ i).nat = n;cases n <;> cases a with
  | clo=>rfl
  | r a=>cases a with
   | i v=>cases v <;> rfl
   | _=>rfl
 rw [e] at hr ⊢;generalize (evσ nt σ i).nat = n at hr ⊢;unfold iadrF at hr ⊢;split at hr
 ·rename_i b g off sz' len n
  simp only [(row_ag (hag b ha) g).2];split at hr
  ·rename_i hc; rw [if_pos hc]; have hr:=Option.some.inj hr; subst hr; exact ⟨_,rfl,rfl⟩
  ·simp at hr
 ·split at hr
  ·rename_i hc; rw [if_pos hc]; have hr:=Option.some.inj hr; subst hr; exact ⟨_,rfl,rfl⟩
  ·simp at hr
 ·simp at hr
end
mutual
theorem IV.retag_idem : ∀ v : IV,(v.retag 1).retag 1 = v.retag 1
  | .bool _=>rfl
  | .int _ _=>rfl
  | .str _=>rfl
  | .nilS=>rfl
  | .emp=>rfl
  | .lit t cs n=>by simp [IV.retag,IV.retags_idem cs]
  | .lp t cs=>by simp [IV.retag,IV.retags_idem cs]
  | .nilP=>rfl
  | .gp _ _=>rfl
  | .nilM=>rfl
  | .nilF=>rfl
  | .clo f cs=>by simp [IV.retag,IV.retags_idem cs]
  | .nilI=>rfl
theorem IV.retags_idem : ∀ c : List IV,IV.retags 1 (IV.retags 1 c) = IV.retags 1 c
  | []=>rfl
  | v :: c=>by simp [IV.retags,IV.retag_idem v,IV.retags_idem c]
end

inductive CapP (nt : Nat) (σ : Sl) : List Opd → List AR → Prop
  | nil : CapP nt σ [] []
  | cons {x : Opd} {a : AC} {r : AR} {l : List Opd} {cs : List AR} (h : evσ nt σ x = .v (.c a)) (c : capOf a = some r) (t : CapP nt σ l cs) : CapP nt σ (x :: l) (r :: cs)
inductive LendP (hp : Heap) : List AR → List IV → Prop
  | nil : LendP hp [] []
  | ptr {b g : Nat} {cs : List IV} {l : List AR} {vs : List IV} (hb : hp.get b = some (.cells g (cs.map I))) (t : LendP hp l vs) : LendP hp (.ptr b g 0 :: l) (.lp 1 (IV.retags 1 cs) :: vs)
  | iv {v : IV} {l : List AR} {vs : List IV} (t : LendP hp l vs) : LendP hp (.i v :: l) (v.retag 1 :: vs)

section
variable {nt : Nat} {σ : Sl} {hp : Heap} {ct d : Nat} {G : Nat → List IV} {R : Run} {Q : Sl → Heap → Nat → Prop} {l : List Ins}

theorem CapP.ev {caps : List Opd} {cs : List AR} (h : CapP nt σ caps cs) : traverse (fun o=>match evσ nt σ o with | .v (.c x)=>capOf x | _=>none) caps = some cs:=by
 induction h with
 | nil=>rfl
 | cons h c _ ih=>rw [traverse_cons,h,ih]; simp only [c]

def FzC (hp : Heap) (a : AC) (v : IV) (bs P : List Nat) : Prop:=refC true a = bs ∧ (∀ b ∈ bs,b ∈ P) ∧ (∀ b ∈ bs,∃ (g : Nat) (cs : List IV),hp.get b = some (.cells g (cs.map I))) ∧ ∀ q n,(∀ b ∈ bs,q b = true) → rd q hp 0 (n + 1) a = some v
theorem FzC.iv (v : IV) : FzC hp (I v) v [] []:=⟨rfl,by simp,by simp,fun _ _ _=>rd_inl _ _ _ _ _⟩
inductive FzL (hp : Heap) : List AC → List IV → List Nat → List Nat → Prop
  | nil : FzL hp [] [] [] []
  | cons {a : AC} {v : IV} {bs P cs PP : List Nat} {l : List AC} {vs : List IV} (h : FzC hp a v bs P) (t : FzL hp l vs cs PP) : FzL hp (a :: l) (v :: vs) (bs ++ cs) (P ++ PP)
theorem FzL.mem {l : List AC} {vs : List IV} {bs PP : List Nat} (h : FzL hp l vs bs PP) : (∀ b ∈ bs,b ∈ PP) ∧ ∀ b ∈ bs,∃ (g : Nat) (cs : List IV),hp.get b = some (.cells g (cs.map I)):=by
 induction h with
 | nil=>simp
 | cons h _ ih =>
  refine ⟨fun b hb=>?_,fun b hb=>?_⟩
  ·rcases List.mem_append.1 hb with hb | hb
   ·exact List.mem_append_left _ (h.2.1 b hb)
   ·exact List.mem_append_right _ (ih.1 b hb)
  ·rcases List.mem_append.1 hb with hb | hb
   ·exact h.2.2.1 b hb
   ·exact ih.2 b hb
theorem FzL.rd {l : List AC} {vs : List IV} {bs PP : List Nat} (h : FzL hp l vs bs PP) (q : Nat → Bool) (n : Nat) (hq : ∀ b ∈ bs,q b = true) : traverse (rd q hp 0 (n + 1)) l = some vs:=by
 induction h with
 | nil=>rfl
 | cons h _ ih=>rw [traverse_cons,h.2.2.2 q n fun b hb=>hq b (List.mem_append_left _ hb),ih fun b hb=>hq b (List.mem_append_right _ hb)]
theorem FzL.deep {l : List AC} {vs : List IV} {bs PP : List Nat} (h : FzL hp l vs bs PP) (n : Nat) : refDeep hp (n + 1) bs = bs:=by
 have : bs.flatMap (fun b=>match hp.get b with | some (.cells _ cs)=>cs.flatMap (refC true) | _=>[]) = []:=by
  rw [List.flatMap_eq_nil_iff];intro b hb;obtain ⟨g,cs,e⟩:=h.mem.2 b hb;rw [e];show (cs.map I).flatMap (refC true) = [];rw [List.flatMap_eq_nil_iff]; intro x hx'; simp at hx'; obtain ⟨v,_,rfl⟩:=hx'; rfl
 have h0 : ∀ m,refDeep hp m [] = []:=by intro m; induction m with | zero=>rfl | succ m ih=>simp [refDeep,ih]
 have h1 : ∀ q,q = [] → bs ++ refDeep hp n q = bs:=by rintro _ rfl; rw [h0,List.append_nil]
 exact h1 _ this
end
def ownC (R : Run) (f : Nat) (as : List A1) (bs : List Blk) (P : List A1 → Heap → Prop) : Prop:=∃ rs h,R f as bs = some (rs,h) ∧ P rs h
inductive ResO (nt : Nat) (σ : Sl) : List Res → List A1 → Prop
  | nil : ResO nt σ [] []
  | tmp {t : Nat} {a : A1} {l : List Res} {vs : List A1} (h : evσ nt σ (.t t) = .v a) (r : ResO nt σ l vs) : ResO nt σ (.tmp t :: l) (a :: vs)
theorem fn_own0 {G : Nat → List IV} {F : Nat → Option Fn} {X : Run} {f : Nat} {fn : Fn} (hf : F f = some fn) {args : List A1} (hn : args.length ≤ fn.nt) {P : List A1 → Heap → Prop}
  (h : wpE G (lim G F X) fn.nt fn.body (ini args) [] 1 (atEnd fn.nt fn.res P)) : ownC (lim G F X) f args [] P:=fn_wp hf hn h

section
variable {nt : Nat} {σ : Sl} {hp : Heap} {ct d : Nat} {G : Nat → List IV} {R : Run} {Q : Sl → Heap → Nat → Prop} {l : List Ins}
theorem ResO.ev {res : List Res} {vs : List A1} (h : ResO nt σ res vs) : traverse (readRσ nt σ hp) res = some vs:=by
 induction h with
 | nil=>rfl
 | tmp h _ ih=>rw [traverse_cons,ih]; simp only [readRσ,h,AV.one]
theorem e_own {res : List Res} {P : List A1 → Heap → Prop} {vs : List A1} (h : ResO nt σ res vs) (hP : P vs hp) : atEnd nt res P .ret σ hp ct:=⟨vs,h.ev,hP⟩
theorem k_kill {b : Nat} (n : ∀ hp',hp'.get b = none → Fr [b] hp hp' → wpL G R nt l Q σ hp' ct) : wpL G R nt (.kill [] [b] :: l) Q σ hp ct:=by
 simp only [wpL];refine ⟨σ,delAll hp [b],ct,rfl,n _ ?_ fun q hq=>?_⟩
 ·rw [Heap.get_delAll]; simp
 ·rw [Heap.get_delAll,if_neg]; exact hq
theorem back_ivs (h : Heap) (pl : List (Nat × Nat × Nat)) (ts : List IV) : traverse (back1 h pl false) (ts.map fun v=>A1.c (I v)) = some (ts.map fun v=>A1.c (I v)):=by
 induction ts with
 | nil=>rfl
 | cons v ts ih=>rw [List.map_cons,traverse_cons,ih]; rfl
theorem back_row (h : Heap) (pl : List (Nat × Nat × Nat)) (ts : List IV) : traverse (backC h pl false) (ts.map I) = some (ts.map I):=by
 induction ts with
 | nil=>rfl
 | cons v ts ih=>rw [List.map_cons,traverse_cons,ih]; rfl
theorem k_callO {α : Type} {E : Rep α} {f1 : Bool} {PL : List Nat} {f : Nat} {args : List Opd} {as as' : List A1} {P : List A1 → Heap → Prop} {xs : List α} {ts : List IV}
  (hd : hp.get d = none) (ha : ArgsP nt σ hp [] args as as') (hl : (as.any fun a=>a.cells.any (lentC [])) = false) (hr : refsOf [] as = []) (hc : ownC R f as' [] P)
  (hP : ∀ rs h,P rs h → ∃ a,rs = .c a :: ts.map (fun v=>.c (I v)) ∧ so PL E f1 h a xs) (hPL : PL.all (fun b=>decide (b < PB)) = true)
  (n : ∀ a' hp',so [d] E f1 hp' a' xs → Fr [d] hp hp' → wpL G R nt l Q (upd σ d (resV (.c a' :: ts.map fun v=>.c (I v)))) hp' (ct + 1)) :
  wpL G R nt (.op (some d) none (.call f args { give:=[],ad:=[(PB,d)],pure:=false }) :: l) Q σ hp ct:=by
 obtain ⟨rs,h,h1,h2⟩:=hc;obtain ⟨a,rfl,hs⟩:=hP _ _ h2;have e1:=ha.ev.1;have e2:=ha.ev.2;rcases hs with ⟨rfl,rfl⟩ | ⟨rfl,rfl⟩ | ⟨b,g,off,cs,c,hb,rfl,h4,h5,h6,h7⟩
 ·refine k_op (v:=resV (.c (I .nilS) :: ts.map fun v=>.c (I v))) (hp':=hp) (ct':=ct + 1) ?_ (n _ _ (.inl ⟨rfl,rfl⟩) (Fr.refl _ _))
  have ea : adOf [(PB,d)] (.c (I .nilS) :: ts.map fun v=>.c (I v)) h = []:=by simp [adOf]
  have eb : traverse (back1 h [] false) (.c (I .nilS) :: ts.map fun v=>.c (I v)) = some (.c (I .nilS) :: ts.map fun v=>.c (I v)):=back_ivs h [] (.nilS :: ts);simp only [opK,evals_mk,e1,doCall,Bool.false_eq_true,if_false,mkS_hp,mkS_ct,hr,e2,show handOver hp [] = some [] from rfl,h1,ea,hl];simp [placesOf,backH,nodupB,eb]
 ·refine k_op (v:=resV (.c (I .emp) :: ts.map fun v=>.c (I v))) (hp':=hp) (ct':=ct + 1) ?_ (n _ _ (.inr (.inl ⟨rfl,rfl⟩)) (Fr.refl _ _))
  have ea : adOf [(PB,d)] (.c (I .emp) :: ts.map fun v=>.c (I v)) h = []:=by simp [adOf]
  have eb : traverse (back1 h [] false) (.c (I .emp) :: ts.map fun v=>.c (I v)) = some (.c (I .emp) :: ts.map fun v=>.c (I v)):=back_ivs h [] (.emp :: ts);simp only [opK,evals_mk,e1,doCall,Bool.false_eq_true,if_false,mkS_hp,mkS_ct,hr,e2,show handOver hp [] = some [] from rfl,h1,ea,hl];simp [placesOf,backH,nodupB,eb]
 ·have hlt : b < PB:=by simpa using List.all_eq_true.1 hPL b hb
  have hrow : (hp.set d (.cells ct (cs.map I))).row d ct = some (cs.map I):=by simp [Heap.row,Heap.get_set]
  refine k_op (v:=resV (.c (.r (.sl d ct off E.sz xs.length)) :: ts.map fun v=>.c (I v))) (hp':=hp.set d (.cells ct (cs.map I))) (ct':=ct + 1) ?_
   (n _ _ (.inr (.inr ⟨d,ct,off,cs,c,List.mem_singleton.2 rfl,rfl,hrow,h5,h6,h7⟩)) (Fr.set d _ hp))
  have ea : adOf [(PB,d)] (.c (.r (.sl b g off E.sz xs.length)) :: ts.map fun v=>.c (I v)) h = [(b,d)]:=by simp [adOf,hlt]
  have hg:=(Heap.row_eq h4).1;have hcur:=(Heap.row_eq h4).2;have eb : traverse (back1 h [(b,d,ct)] false) (.c (.r (.sl b g off E.sz xs.length)) :: ts.map fun v=>.c (I v)) = some (.c (.r (.sl d ct off E.sz xs.length)) :: ts.map fun v=>.c (I v)):=by
   rw [traverse_cons,back_ivs];simp [back1,backC,backR,backAt,hcur]
  have eh : backH h [(b,d,ct)] false [(b,d,ct)] hp = some (hp.set d (.cells ct (cs.map I))):=by
   simp only [backH,hg,backB,back_row,Option.map_some]
  simp only [opK,evals_mk,e1,doCall,Bool.false_eq_true,if_false,mkS_hp,mkS_ct,hr,e2,show handOver hp [] = some [] from rfl,h1,ea,hl];simp [placesOf,nodupB,hd,hlt,eb,eh]
def _root_.Go.Abs.appN {α : Type} (b : Nat) (l : List α) (n : Int) (z : α) : Option (List α):=if 0 ≤ n then app b l (List.replicate n.toNat z) else none
end
end Go.Abs

namespace Go.Abs
open Go.RowKit
def okIR (P : Program) : IR → Code → Bool
  | .ghost l x,c=>l.all (fun x=>!x.isOp) && okIR P x c
  | .skip,.skip=>true
  | .reg l,.region _ ops draw=>!draw && okInsL P ops l 0
  | .regD l pre,.region _ ops draw=>draw && okDraw P ops l pre
  | .seq x y,.seq c d=>okIR P x c && okIR P y d
  | .cond x p q,.cond y c d=>okOpd y x && okIR P p c && okIR P q d
  | .block i x,.block j c=>i == j && okIR P x c
  | .loop x,.loop c=>okIR P x c
  | .exit i,.exit j=>i == j
  | .ret,.ret=>true
  | _,_=>false

def ExOk : Ex → Exit → Prop
  | .normal,.normal=>True
  | .exit i,.exit j=>i = j
  | .ret,.ret=>True
  | _,_=>False

def Behind (X : Cx) (E : Env) (ex : Ex) (s' : St) (e : Exit) (a' : Act) (w' : World) : Prop :=
  ExOk ex e ∧ ∃ E',E'.w = w' ∧ Rel X E' s' a' ∧ Ext X E E' ∧ E.w.heap.size ≤ w'.heap.size

section
variable {P : Program} {X : Cx} {G : Nat → List IV} {R : Run}

theorem Behind.trans {E E1 : Env} {ex : Ex} {s' : St} {e : Exit} {a' : Act} {w' : World} (h : Ext X E E1) (hs : E.w.heap.size ≤ E1.w.heap.size) (b : Behind X E1 ex s' e a' w') : Behind X E ex s' e a' w':=by
 obtain ⟨h1,E',h2,h3,h4,h5⟩:=b;exact ⟨h1,E',h2,h3,h.trans h4 hs,Nat.le_trans hs h5⟩

theorem exec_sound (hR : RunOk P G R) (hG : GOk X G) (n : Nat) : ∀ (x : IR) (c : Code) (s s' : St) (ex : Ex) (E : Env) (a : Act),okIR P x c = true → exec G R n x s = some (ex,s') → Rel X E s a →
  c.wp P (Behind X E ex s') a E.w
 | .ghost l x,c,s,s',ex,E,a,hk,hs,hr=>by
  simp only [okIR,Bool.and_eq_true] at hk
  simp only [exec] at hs
  split at hs
  ·rename_i s1 hs1
   obtain ⟨E1,h1,h2,h3⟩:=ghosts_sound l s E hk.1 hs1 hr
   have:=exec_sound hR hG n x c s1 s' ex E1 a hk.2 hs h2
   rw [h1] at this
   exact wp_mono this fun e a' w' b=>b.trans h3 (by rw [h1]; exact Nat.le_refl _)
  ·simp at hs
 | .skip,c,s,s',ex,E,a,hk,hs,hr=>by
  cases c <;> simp [okIR] at hk
  simp [exec] at hs
  obtain ⟨rfl,rfl⟩:=hs
  exact wp_skip ⟨trivial,E,rfl,hr,Ext.refl X E,Nat.le_refl _⟩
 | .reg l,c,s,s',ex,E,a,hk,hs,hr=>by
  cases c <;> simp [okIR] at hk
  rename_i id ops draw
  obtain ⟨rfl,hk⟩:=hk
  simp only [exec] at hs
  split at hs
  ·rename_i s1 hs1
   simp at hs
   obtain ⟨rfl,rfl⟩:=hs
   refine wp_region ?_
   have:=insL_sound hR hG (Q:=Behind X E .normal s1) l 0 s E a hk (Nat.zero_le _) hs1 hr fun E' a' h1 h2 h3=>⟨trivial,E',rfl,h1,h2,h3⟩
   simpa using this
  ·simp at hs
 | .seq x y,c,s,s',ex,E,a,hk,hs,hr=>by
  cases c <;> simp [okIR] at hk
  rename_i c d
  simp only [exec] at hs
  split at hs
  ·rename_i s1 hs1
   refine wp_seq (wp_mono (exec_sound hR hG n x c s s1 .normal E a hk.1 hs1 hr) ?_)
   rintro e a' w' ⟨he,E1,rfl,h1,h2,h3⟩
   cases e <;> simp [ExOk] at he
   exact wp_mono (exec_sound hR hG n y d s1 s' ex E1 a' hk.2 hs h1) fun e a' w' b=>b.trans h2 h3
  ·rename_i hne
   refine wp_seq (wp_mono (exec_sound hR hG n x c s s' ex E a hk.1 hs hr) ?_)
   rintro e a' w' ⟨he,E1,rfl,h1,h2,h3⟩
   cases e with
   | normal =>
    cases ex <;> simp [ExOk] at he
    exact (hne s' hs).elim
   | _=>exact ⟨he,E1,rfl,h1,h2,h3⟩
 | .cond x p q,c,s,s',ex,E,a,hk,hs,hr=>by
  cases c <;> simp [okIR] at hk
  rename_i y c d
  simp only [exec] at hs
  have r:=ev_sound hr.tr hk.1.1
  split at hs
  ·rename_i hb
   exact wp_cond_true (bool_sound r hb) (exec_sound hR hG n p c s s' ex E a hk.1.2 hs hr)
  ·rename_i hb
   exact wp_cond_false (bool_sound r hb) (exec_sound hR hG n q d s s' ex E a hk.2 hs hr)
  ·simp at hs
 | .block i x,c,s,s',ex,E,a,hk,hs,hr=>by
  cases c <;> simp [okIR] at hk
  rename_i j c
  obtain ⟨rfl,hk⟩:=hk
  simp only [exec] at hs
  split at hs
  ·rename_i i2 s1 hs1
   simp at hs
   obtain ⟨rfl,rfl⟩:=hs
   refine wp_block (wp_mono (exec_sound hR hG n x c s s1 (.exit i2) E a hk hs1 hr) ?_)
   rintro e a' w' ⟨he,E1,rfl,h1,h2,h3⟩
   cases e <;> simp [ExOk] at he
   subst he
   simp only [Exit.inBlock]
   split
   ·exact ⟨trivial,E1,rfl,h1,h2,h3⟩
   ·exact ⟨rfl,E1,rfl,h1,h2,h3⟩
  ·rename_i hne
   refine wp_block (wp_mono (exec_sound hR hG n x c s s' ex E a hk hs hr) ?_)
   rintro e a' w' ⟨he,E1,rfl,h1,h2,h3⟩
   cases e with
   | exit i2 =>
    cases ex <;> simp [ExOk] at he
    exact (hne _ s' hs).elim
   | _=>exact ⟨he,E1,rfl,h1,h2,h3⟩
 | .loop x,c,s,s',ex,E,a,hk,hs,hr=>by
  cases c <;> simp [okIR] at hk
  rename_i c
  simp only [exec] at hs
  have key : ∀ (m : Nat) (s : St) (E1 : Env) (a : Act),loopN (exec G R n x) m s = some (ex,s') → Rel X E1 s a → Ext X E E1 → E.w.heap.size ≤ E1.w.heap.size → Code.rounds P c (Behind X E ex s') m a E1.w:=by
   intro m
   induction m with
   | zero=>intro s E1 a hs; simp [loopN] at hs
   | succ m ih =>
    intro s E1 a hs hr hE hsz
    simp only [loopN] at hs
    show c.wp P (Exit.then (Code.rounds P c _ m) _) a E1.w
    split at hs
    ·rename_i s1 hs1
     refine wp_mono (exec_sound hR hG n x c s s1 .normal E1 a hk hs1 hr) ?_
     rintro e a' w' ⟨he,E2,rfl,h1,h2,h3⟩
     cases e <;> simp [ExOk] at he
     exact ih s1 E2 a' hs h1 (hE.trans h2 hsz) (Nat.le_trans hsz h3)
    ·rename_i hne
     refine wp_mono (exec_sound hR hG n x c s s' ex E1 a hk hs hr) ?_
     rintro e a' w' b
     have b2:=b.trans hE hsz
     obtain ⟨he,_⟩:=b
     cases e with
     | normal =>
      cases ex <;> simp [ExOk] at he
      exact (hne s' hs).elim
     | _=>exact b2
  exact wp_loop_rounds n (key n s E a hs hr (Ext.refl X E) (Nat.le_refl _))
 | .exit i,c,s,s',ex,E,a,hk,hs,hr=>by
  cases c <;> simp [okIR] at hk
  rename_i j
  subst hk
  simp [exec] at hs
  obtain ⟨rfl,rfl⟩:=hs
  exact wp_exit ⟨rfl,E,rfl,hr,Ext.refl X E,Nat.le_refl _⟩
 | .ret,c,s,s',ex,E,a,hk,hs,hr=>by
  cases c <;> simp [okIR] at hk
  simp [exec] at hs
  obtain ⟨rfl,rfl⟩:=hs
  exact wp_ret ⟨trivial,E,rfl,hr,Ext.refl X E,Nat.le_refl _⟩
 | .regD l pre,c,s,s',ex,E,a,hk,hs,hr=>by
  cases c <;> simp [okIR] at hk
  rename_i id ops draw
  obtain ⟨rfl,hk⟩:=hk
  simp only [exec] at hs
  split at hs
  ·rename_i ss hh ht
   split at hs
   ·rename_i hdyn
    split at hs
    ·rename_i s1 hl
     simp at hs
     obtain ⟨rfl,rfl⟩:=hs
     exact draw_sound hR hG hk ht hdyn hl hr fun E' a' h1 h2 h3=>⟨trivial,E',rfl,h1,h2,h3⟩
    ·simp at hs
   ·simp at hs
  ·simp at hs

end
def okRes (P : Program) : List ResultVar → List Res → Bool
  | [],[]=>true
  | .tmp t :: l,.tmp t' :: m=>t == t' && okRes P l m
  | .cell a t :: l,.cell a' n agg :: m=>a == a' && tyOk P t n agg && okRes P l m
  | _,_=>false

def okFn (P : Program) (f : Nat) (fn : Fn) : Bool :=
  match P.funcs[f]? with
  | some g=>match g.body with
    | some c=>g.ntmps == fn.nt && okRes P g.results.toList fn.res && okIR P fn.body c && g.name != "runtime.NumGoroutine"
    | none=>false
  | none=>false

section
variable {P : Program} {X : Cx} {E : Env} {s : St} {a : Act} {G : Nat → List IV} {R : Run}

def resOne (a : Act) : ResultVar → Sem Value
  | .tmp t=>pure (a.tmps.getD t undef)
  | .cell b t=>do loadVar t (← asAddr (a.tmps.getD b undef))

theorem get_sound (h : TR X E s a) {t : Nat} {w : A1} (e : s.get t = .v w) : A1R X E w (a.tmps.getD t undef):=by
 unfold St.get at e;rw [List.getD_eq_getElem?_getD] at e;cases hq : s.tm[t]? with
 | none=>rw [hq] at e; simp at e
 | some q=>rw [hq] at e; simp at e; have:=h.at_ t q hq; rw [e] at this; exact this

theorem res_list (hr : Rel X E s a) : ∀ {l : List ResultVar} {m : List Res} {rs : List A1},okRes P l m = true → traverse (readRes s) m = some rs →
  ∃ vs,(l.mapM (resOne a)).run P E.w = .ok vs E.w ∧ All2 (A1R X E) rs vs
 | [],[],rs,_,e=>by simp [traverse] at e; subst e; exact ⟨[],by simp,.nil⟩
 | .tmp t :: l,.tmp t' :: m,rs,h,e=>by
  simp [okRes] at h
  obtain ⟨rfl,h⟩:=h
  simp only [traverse] at e
  split at e
  ·simp at e
  ·rename_i b hb
   split at e
   ·simp at e
   ·rename_i bs hbs
    simp at e
    subst e
    obtain ⟨vs,h1,h2⟩:=res_list hr h hbs
    have hg : s.get t = .v b:=by
     simp only [readRes] at hb
     cases hq : s.get t <;> rw [hq] at hb <;> simp [AV.one] at hb
     rw [hb]
    exact ⟨_ :: vs,by simp [List.mapM_cons,resOne,h1],.cons (get_sound hr.tr hg) h2⟩
 | .cell b t :: l,.cell b' n agg :: m,rs,h,e=>by
  simp [okRes] at h
  obtain ⟨⟨rfl,hty⟩,h⟩:=h
  simp only [traverse] at e
  split at e
  ·simp at e
  ·rename_i r hrr
   split at e
   ·simp at e
   ·rename_i bs hbs
    simp at e
    subst e
    obtain ⟨vs,h1,h2⟩:=res_list hr h hbs
    simp only [readRes] at hrr
    split at hrr
    ·rename_i bb g off hg
     split at hrr
     ·rename_i cs hrow
      split at hrr
      ·rename_i cs' hcs
       have hv:=get_sound hr.tr hg
       rw [← hr.h] at hrow
       have hlk : lookAt (fun _=>[]) E.h (.r (.ptr bb g off)) = some (cs.drop off):=by simp [lookAt,hrow]
       have hG0 : GOk X (fun _=>[]):=fun g hg=>absurd rfl hg
       obtain ⟨ad,ws,q1,q2,q3,q4⟩:=look_view hr.wr hG0 (p:=.r (.ptr bb g off)) hv hlk hcs
       have hl:=run_loadVar_cells hty E.w ad ws q2 q4
       refine ⟨valOf agg ws :: vs,?_,.cons (mk1_sound q3 hrr) h2⟩
       simp [List.mapM_cons,resOne,q1,asAddr,hl,h1]
      ·simp at hrr
     ·simp at hrr
    ·simp at hrr
 | [],_ :: _,_,h,_=>by simp [okRes] at h
 | .tmp _ :: _,[],_,h,_=>by simp [okRes] at h
 | .cell _ _ :: _,[],_,h,_=>by simp [okRes] at h
 | .tmp _ :: _,.cell _ _ _ :: _,_,h,_=>by simp [okRes] at h
 | .cell _ _ :: _,.tmp _ :: _,_,h,_=>by simp [okRes] at h

theorem results_sound (hr : Rel X E s a) {g : Func} {m : List Res} {rs : List A1} (h : okRes P g.results.toList m = true) (e : traverse (readRes s) m = some rs) :
  ∃ vs,(results g a.tmps).run P E.w = .ok (retV vs) E.w ∧ All2 (A1R X E) rs vs:=by
 obtain ⟨vs,h1,h2⟩:=res_list hr h e;refine ⟨vs,?_,h2⟩;have e1 : results g a.tmps = (g.results.mapM (resOne a)) >>= fun vs=>Pure.pure (if h : vs.size = 1 then vs[0] else .tuple vs):=by
  unfold results;congr 1
 rw [e1,Array.mapM_eq_mapM_toList];simp only [Sem.run_bind,Sem.run_map,h1,Result.andThen_ok,Sem.run_pure];congr 1;match vs with
 | []=>rfl
 | [x]=>rfl
 | x :: y :: l=>simp [retV]

theorem run_sound {F : Nat → Option Fn} {Xr : Run} (hF : ∀ f fn,F f = some fn → okFn P f fn = true) (hX : RunOk P G Xr) (n : Nat) : ∀ d,RunOk P G (run G F Xr n d)
 | 0=>fun f args bs rs h e=>by simp [run] at e
 | d + 1=>by
  intro f args bs rs h e X ids E0 lent cargs X' E hW hG ha
  simp only [run] at e
  split at e
  ·exact hX f args bs rs h e X ids E0 lent cargs hW hG ha
  ·rename_i fn hfn
   have hok:=hF f fn hfn
   unfold okFn at hok
   split at hok
   ·rename_i g hg
    split at hok
    ·rename_i c hc
     simp at hok
     obtain ⟨⟨⟨hnt,hres⟩,hir⟩,hname⟩:=hok
     refine .inl ⟨?_,?_⟩
     ·simp [callFunc,hg,hname,hc]
     ·have hl:=ha.length
      have hr0 : Rel X' E (start fn args bs) { tmps:=cargs.toArray ++ Array.replicate (g.ntmps - cargs.toArray.size) undef,defers:=[] }:=by
       refine ⟨rfl,rfl,hW,rfl,?_,fun i v hv=>?_⟩
       ·simp [start,hnt,hl]
       ·simp only [start] at hv
        by_cases hi : i < args.length
        ·rw [List.getElem?_append_left (by simpa using hi),List.getElem?_map] at hv
         cases hq : args[i]? with
         | none=>simp [hq] at hv
         | some z =>
          simp [hq] at hv
          subst hv
          obtain ⟨w,hw,hrw⟩:=ha.get i z hq
          have hi2 : i < cargs.length:=by omega
          have hw2 : cargs[i] = w:=by
           have:=List.getElem?_eq_getElem hi2
           rw [hw] at this; simpa using this.symm
          have : (cargs.toArray ++ Array.replicate (g.ntmps - cargs.toArray.size) undef).getD i undef = w:=by
           rw [Array.getD_eq_getD_getElem?,Array.getElem?_append_left (by simpa using hi2)]
           simp [hi2,hw2]
          rw [this]
          exact hrw
        ·rw [List.getElem?_append_right (by simpa using Nat.le_of_not_lt hi)] at hv
         rw [List.getElem?_replicate] at hv
         split at hv
         ·simp at hv; subst hv; trivial
         ·simp at hv
      have hdone : ∀ (ex : Ex) (s1 : St),exec G (run G F Xr n d) n fn.body (start fn args bs) = some (ex,s1) → (∀ i,ex ≠ .exit i) → traverse (readRes s1) fn.res = some rs → s1.hp = h →
        Calls P f cargs.toArray E.w fun e w'=>∃ v,e = .returned v ∧ ∃ E',E'.w = w' ∧ E'.h = h ∧ WR X' E' ∧ Ext X' E E' ∧ ∃ vs,All2 (A1R X' E') rs vs ∧ v = retV vs:=by
       intro ex s1 he hne hrs hh
       refine calls_of_wp hg hc (wp_mono (exec_sound (run_sound hF hX n d) hG n fn.body c _ s1 ex E _ hir he hr0) ?_)
       rintro e a' w' ⟨h1,E',rfl,h2,h3,h4⟩
       obtain ⟨vs,q1,q2⟩:=results_sound h2 hres hrs
       have fin : a'.defers = [] ∧ ∃ v,(results g a'.tmps).run P E'.w = .ok v E'.w ∧ ∃ v',Ending.returned v = .returned v' ∧ ∃ E'',E''.w = E'.w ∧ E''.h = h ∧ WR X' E'' ∧ Ext X' E E'' ∧ ∃ vs,All2 (A1R X' E'') rs vs ∧ v' = retV vs :=
        ⟨h2.tr.defers,_,q1,_,rfl,E',rfl,by rw [h2.h,hh],h2.wr,h3,vs,q2,rfl⟩
       cases ex with
       | normal=>cases e <;> simp [ExOk] at h1; exact fin
       | ret=>cases e <;> simp [ExOk] at h1; exact fin
       | exit i=>exact absurd rfl (hne i)
      split at e
      ·simp at e
      ·rename_i ex s1 hne he
       split at e
       ·rename_i rs' hrs
        simp at e
        obtain ⟨rfl,rfl⟩:=e
        exact hdone ex s1 he (fun i q=>hne i (by rw [← q])) hrs rfl
       ·simp at e
      ·simp at e
    ·simp at hok
   ·simp at hok

end
end Go.Abs

namespace Go.Abs
open Go.RowKit Go.Sort
structure XT (α : Type) where
  cell : α → AC
  of : AC → Option α
  enc : α → Value
  of_is : ∀ {a x},of a = some x → a = cell x
  rel : ∀ {X E x v},CC X E (cell x) v → v = enc x
  ler : ∀ X E x,CC X E (cell x) (enc x)
def XT.str : XT (List UInt8) where
  cell l:=I (.str l)
  of | .r (.i (.str l))=>some l
     | _=>none
  enc l:=.string ⟨l.toArray⟩
  of_is:=by intro a x h; split at h <;> simp at h; subst h; rfl
  rel:=by intro X E x v r; have r2 : VR _ _ _ _:=r; cases r2; rename_i s h; subst h; rfl
  ler:=fun X E x=>VR.str _ _ rfl
def XT.i64 : XT Int where
  cell n:=I (.int .i64 n)
  of | .r (.i (.int .i64 n))=>some n
     | _=>none
  enc n:=.int .i64 n
  of_is:=by intro a x h; split at h <;> simp at h; subst h; rfl
  rel:=by intro X E x v r; have r2 : VR _ _ _ _:=r; cases r2; rfl
  ler:=fun X E x=>VR.int _ _

section
variable {α : Type} [Inhabited α] {X : Cx} {E : Env}

theorem row_holds (T : XT α) (hW : WR X E) {b g off n : Nat} {cs : List AC} {zs : List α} (hrow : E.h.row b g = some cs) (hfit : off + n ≤ cs.length) (hoff : (E.m b).2 ≤ off) (e : traverse T.of ((cs.drop off).take n) = some zs) :
  zs.length = n ∧ Holds T.enc E.w (E.m b).1 (off - (E.m b).2) zs.toArray:=by
 obtain ⟨hget,hcur⟩:=Heap.row_eq hrow;obtain ⟨⟨cc,ee,fr,r1,r2,r3,r4⟩,_,_⟩:=hW.blk b _ hget;have hl : zs.length = n:=by
  have:=traverse_length e
  rw [List.length_take,List.length_drop] at this;omega
 refine ⟨hl,fun j hj=>?_⟩;have hj : j < zs.length:=by simpa using hj
 obtain ⟨a,ha,hb⟩:=traverse_get e j zs[j] (by simp [hj]);have ha2 : cs[off + j]? = some a:=by
  rw [List.getElem?_take_of_lt (by omega),List.getElem?_drop] at ha;exact ha
 obtain ⟨v,hv,hr⟩:=r4 (off + j) a (by omega) ha2;have h1:=T.of_is hb;subst h1;have h2:=T.rel hr;subst h2;have e1 : off + j - (E.m b).2 = off - (E.m b).2 + j:=by omega
 rw [e1] at hv;refine ⟨?_,?_⟩
 ·rw [cell_of_heap r1,hv]
  simp [hj]
 ·exact frozen_no r1 r2 (Array.getElem?_eq_some_iff.1 hv).1

theorem row_put (T : XT α) (hW : WR X E) {b g off : Nat} {cs : List AC} (ys : List α) (hrow : E.h.row b g = some cs) (hfit : off + ys.length ≤ cs.length) (hoff : (E.m b).2 ≤ off) (q : Nat) (os : Array Obj) :
    ∃ E',E'.w = grow (putRow T.enc (Sort.ahead E.w q) (E.m b).1 (off - (E.m b).2) ys.toArray) os ∧ E'.h = E.h.set b (.cells g (lay cs off (ys.map T.cell))) ∧ E'.m = E.m ∧ E'.ct = E.ct ∧ WR X E' ∧ Ext X E E':=by
  obtain ⟨hget,hcur⟩:=Heap.row_eq hrow
  obtain ⟨⟨cc,e,fr,r1,r2,r3,r4⟩,hgen,_⟩:=hW.blk b _ hget
  have hlt:=(Array.getElem?_eq_some_iff.1 r1).1
  have hfit' : off + (ys.map T.cell).length ≤ cs.length:=by simpa using hfit
  have hw : ∀ k,k < E.w.heap.size → (grow (putRow T.enc (Sort.ahead E.w q) (E.m b).1 (off - (E.m b).2) ys.toArray) os).heap[k]? = if (E.m b).1 = k then (E.w.heap[k]?).map (onCells (putCells T.enc (off - (E.m b).2) ys.toArray)) else E.w.heap[k]?:=by
    intro k hk
    show ((E.w.heap.modify (E.m b).1 _) ++ os)[k]? = _
    rw [Array.getElem?_append_left (by simpa using hk),Array.getElem?_modify]
  have hcell : (grow (putRow T.enc (Sort.ahead E.w q) (E.m b).1 (off - (E.m b).2) ys.toArray) os).heap[(E.m b).1]? = some (.cells (putCells T.enc (off - (E.m b).2) ys.toArray cc) e fr):=by
    rw [hw _ hlt,if_pos rfl,r1]; rfl
  have hsz : (putCells T.enc (off - (E.m b).2) ys.toArray cc).size = cc.size:=by simp [putCells]
  have hP : Put X E { E with h:=E.h.set b (.cells g (lay cs off (ys.map T.cell))),w:=grow (putRow T.enc (Sort.ahead E.w q) (E.m b).1 (off - (E.m b).2) ys.toArray) os } b (.cells g (lay cs off (ys.map T.cell))) (E.m b).1 :=
    { h:=rfl,ct:=Nat.le_refl _,gen:=hgen,m:=fun _ _=>rfl
      size:=by
        show E.w.heap.size ≤ ((E.w.heap.modify (E.m b).1 _) ++ os).size
        simp
      heap:=fun k hk hne=>by rw [hw k hk,if_neg (Ne.symm hne)]
      c0:=.inr ⟨by simp [hget],rfl⟩,at_:=.inr ⟨by simp [hget],rfl⟩
      old:=fun _=>⟨hcur,rfl,fun cc2 e2 fr2 h2=>by
        rw [r1] at h2
        injection h2 with h2
        injection h2 with h2 h3 h4
        exact ⟨_,e,fr,hcell,by rw [hsz,h2]⟩⟩
      os:=rfl,tape:=rfl,output:=rfl }
  have hE:=hP.ext hW
  refine ⟨{ E with h:=E.h.set b (.cells g (lay cs off (ys.map T.cell))),w:=grow (putRow T.enc (Sort.ahead E.w q) (E.m b).1 (off - (E.m b).2) ys.toArray) os },rfl,rfl,rfl,rfl,hP.wr hW ?_,hE⟩
  refine ⟨_,e,fr,hcell,by rw [hsz]; exact r2,by rw [lay_length hfit']; exact r3,fun i x hi hx=>?_⟩
  simp only at hi ⊢
  rw [lay_get hfit'] at hx
  have hput : (putCells T.enc (off - (E.m b).2) ys.toArray cc)[i - (E.m b).2]? = (cc[i - (E.m b).2]?).map fun x=>if off - (E.m b).2 ≤ i - (E.m b).2 ∧ i - (E.m b).2 < off - (E.m b).2 + ys.toArray.size then T.enc ys.toArray[i - (E.m b).2 - (off - (E.m b).2)]! else x:=by
    simp [putCells,Array.getElem?_mapIdx]
  have hin : i < cs.length → ∃ v0,cc[i - (E.m b).2]? = some v0:=fun hi2=>by
    obtain ⟨v0,hv0,_⟩:=r4 i cs[i] hi (by simp [hi2])
    exact ⟨v0,hv0⟩
  split at hx
  · rename_i h1
    rw [List.length_map] at h1
    obtain ⟨v0,hv0⟩:=hin (by omega)
    have hk : i - off < ys.length:=by omega
    rw [List.getElem?_map,List.getElem?_eq_getElem hk,Option.map_some] at hx
    have hx:=Option.some.inj hx
    subst hx
    refine ⟨T.enc ys[i - off],?_,T.ler _ _ _⟩
    rw [hput,hv0,Option.map_some,if_pos ⟨by omega,by simp; omega⟩]
    have : i - (E.m b).2 - (off - (E.m b).2) = i - off:=by omega
    rw [this]
    simp [hk]
  · rename_i h1
    obtain ⟨v,hv,hr⟩:=r4 i x hi hx
    refine ⟨v,?_,hr.ext hE⟩
    rw [List.length_map] at h1
    rw [hput,hv,Option.map_some,if_neg (by simp; omega)]

def hpOf (bs : List Blk) : Heap:=bs.zipIdx.map fun (b,i)=>(PB + i,b)
omit [Inhabited α] in
theorem Heap.set_same {b : Nat} {x : Blk} : ∀ {h : Heap},h.get b = some x → h.set b x = h
 | [],e=>by simp [Heap.get] at e
 | (k,y) :: h,e=>by
  simp only [Heap.get] at e
  simp only [Heap.set]
  split at e
  ·rename_i hk
   have e:=Option.some.inj e
   subst e
   rw [if_pos hk]
  ·rename_i hk
   rw [if_neg hk,Heap.set_same e]
def xRow (T : XT α) (new : List α → List α) (len : List α → Option Nat) : List A1 → List Blk → Option (List A1 × Heap)
  | [.c (.r (.i .nilS))],bs=>some (match len [] with | some _=>[.c (I .nilS)] | none=>[],hpOf bs)
  | [.c (.r (.i .emp))],bs=>some (match len [] with | some _=>[.c (I .emp)] | none=>[],hpOf bs)
  | [.c (.r (.sl b g off sz n))],bs=>if b = PB ∧ sz = 1 ∧ n ≤ 1000000000 then
      match (hpOf bs).row PB g with
      | some cs=>if off + n ≤ cs.length then match traverse T.of ((cs.drop off).take n) with
        | some zs=>some (match len zs with | some m=>[.c (.r (.sl PB g off 1 m))] | none=>[],(hpOf bs).set PB (.cells g (lay cs off ((new zs).map T.cell))))
        | none=>none
        else none
      | none=>none
    else none
  | _,_=>none

structure RowC (P : Program) (f : Nat) (T : XT α) (new : List α → List α) (len : List α → Option Nat) : Prop where
  enter : ∀ args w,(callFunc f args).run P w = .ok (.enter f args) w
  row : ∀ (blk off cap : Nat) (zs : List α) (w : World),Holds T.enc w blk off zs.toArray → blk < w.heap.size → zs.length ≤ 1000000000 → zs.length ≤ cap →
    Calls P f #[.slice (some ⟨blk,off,none⟩) zs.length cap] w fun e w'=>e = .returned (match len zs with | some m=>.slice (some ⟨blk,off,none⟩) m cap | none=>.tuple #[]) ∧ ∃ n os,w' = grow (putRow T.enc (Sort.ahead w n) blk off (new zs).toArray) os
  empty : ∀ (p : Option Addr) (cap : Nat) (w : World),Calls P f #[.slice p 0 cap] w fun e w'=>e = .returned (match len [] with | some _=>.slice p 0 cap | none=>.tuple #[]) ∧ w' = w
  same : ∀ zs,(new zs).length = zs.length
  le : ∀ zs m,len zs = some m → m ≤ zs.length

theorem row_ok1 {P : Program} {f : Nat} {T : XT α} {new : List α → List α} {len : List α → Option Nat} (hC : RowC P f T new len) {bs : List Blk} {rs : List A1} {h : Heap}
  (X : Cx) (ids : List Nat) (E0 : Env) (lent : Bool) (cargs : List Value) {g off n : Nat} {cs : List AC} {zs : List α} :
  let X':=calleeX X E0 ids lent; let E:=calleeE E0 ids bs
  WR X' E → All2 (A1R X' E) [.c (.r (.sl PB g off 1 n))] cargs → n ≤ 1000000000 → (hpOf bs).row PB g = some cs → off + n ≤ cs.length → traverse T.of ((cs.drop off).take n) = some zs →
  some (match len zs with | some m=>[A1.c (.r (.sl PB g off 1 m))] | none=>[],(hpOf bs).set PB (.cells g (lay cs off ((new zs).map T.cell)))) = some (rs,h) →
  CallOk P f cargs.toArray E.w fun v w'=>∃ E',E'.w = w' ∧ E'.h = h ∧ WR X' E' ∧ Ext X' E E' ∧ ∃ vs,All2 (A1R X' E') rs vs ∧ v = retV vs:=by
 intro X' E hW ha hn hrow0 hfit hz e;have e:=Option.some.inj e;have e1:=(Prod.mk.inj e).1;have e2:=(Prod.mk.inj e).2;subst e2;obtain ⟨u,rfl,h1⟩ : ∃ u,cargs = [u] ∧ RR X' E (.sl PB g off 1 n) u:=by
  cases ha with
  | cons h1 h2=>cases h2; exact ⟨_,rfl,h1⟩
 have hrow : E.h.row PB g = some cs:=hrow0;have hcur:=(Heap.row_eq hrow).2;obtain ⟨o1,o2,o3⟩:=id h1;obtain ⟨k3,o4⟩:=o3 hcur;obtain ⟨hl,hH⟩:=row_holds T hW hrow hfit k3 hz;have hblk : (E.m PB).1 < E.w.heap.size:=hW.lt (Heap.row_eq hrow).1
 -- nothing in it
 have zero : ∀ p cap,n = 0 → u = .slice p 0 cap → CallOk P f [u].toArray E.w fun v w'=>∃ E',E'.w = w' ∧ E'.h = (hpOf bs).set PB (.cells g (lay cs off ((new zs).map T.cell))) ∧ WR X' E' ∧ Ext X' E E' ∧ ∃ vs,All2 (A1R X' E') rs vs ∧ v = retV vs:=by
  rintro p cap rfl rfl;have hz0 : zs = []:=List.length_eq_zero_iff.1 hl;subst hz0;have hn0 : new [] = []:=List.length_eq_zero_iff.1 (by rw [hC.same]; rfl);refine .inl ⟨hC.enter _ _,(hC.empty p cap E.w).mono ?_⟩;rintro e w' ⟨rfl,rfl⟩;refine ⟨_,rfl,E,rfl,?_,hW,Ext.refl _ _,?_⟩
  ·rw [hn0]
   have e3 : lay cs off (List.map T.cell []) = cs:=by simp [lay,List.take_append_drop]
   rw [e3];exact (Heap.set_same (Heap.row_eq hrow0).1).symm
  ·rw [← e1]
   cases hlen : len [] with
   | none=>exact ⟨[],.nil,rfl⟩
   | some m =>
    have : m = 0:=by have:=hC.le [] m hlen; simpa using this
    subst this;exact ⟨[.slice p 0 cap],.cons h1 .nil,rfl⟩
 rcases o4 with ⟨cap,rfl,hcap⟩ | ⟨h0,a,hu⟩
 ·by_cases h0 : n = 0
  ·exact zero _ _ h0 (by rw [h0])
  ·have hrun:=hC.row (E.m PB).1 (off - (E.m PB).2) cap zs E.w hH hblk (by omega) (by rw [hl]; exact hcap.1)
   rw [hl] at hrun;refine .inl ⟨hC.enter _ _,hrun.mono ?_⟩;rintro e w' ⟨rfl,q,os,rfl⟩;obtain ⟨E',f1,f2,f3,f4,f5,f6⟩:=row_put T hW (new zs) hrow (by rw [hC.same,hl]; exact hfit) k3 q os;refine ⟨_,rfl,E',f1,f2,f5,f6,?_⟩;rw [← e1];cases hlen : len zs with
   | none=>exact ⟨[],.nil,rfl⟩
   | some m =>
    have hm:=hC.le zs m hlen;refine ⟨[.slice (some ⟨(E.m PB).1,off - (E.m PB).2,none⟩) m cap],.cons ?_ .nil,rfl⟩;have h1' : RR X' E' (.sl PB g off 1 n) (.slice (some ⟨(E.m PB).1,off - (E.m PB).2,none⟩) n cap):=RR.ext f6 h1;obtain ⟨_,p2,p3⟩:=h1';refine ⟨rfl,p2,fun hc=>?_⟩;obtain ⟨p3,p4⟩:=p3 hc;refine ⟨p3,.inl ⟨cap,by rw [f3],?_⟩⟩;rcases p4 with ⟨cap2,p4,p5⟩ | ⟨p4,_⟩
    ·injection p4 with p6 p7 p8
     subst p8;exact ⟨by have:=p5.1; omega,p5.2⟩
    ·omega
 ·exact zero _ _ h0 hu
theorem row_ok {P : Program} {G : Nat → List IV} {f : Nat} {T : XT α} {new : List α → List α} {len : List α → Option Nat} (hC : RowC P f T new len) {args : List A1} {bs : List Blk} {rs : List A1} {h : Heap} (e : xRow T new len args bs = some (rs,h))
  (X : Cx) (ids : List Nat) (E0 : Env) (lent : Bool) (cargs : List Value) : let X':=calleeX X E0 ids lent; let E:=calleeE E0 ids bs
  WR X' E → GOk X' G → All2 (A1R X' E) args cargs →
  CallOk P f cargs.toArray E.w fun v w'=>∃ E',E'.w = w' ∧ E'.h = h ∧ WR X' E' ∧ Ext X' E E' ∧ ∃ vs,All2 (A1R X' E') rs vs ∧ v = retV vs:=by
 intro X' E hW _ ha;unfold xRow at e;split at e
 ·-- nil
  obtain ⟨u,rfl,h1⟩ : ∃ u,cargs = [u] ∧ VR (okc X' E) E.w.heap .nilS u:=by
   cases ha with
   | cons h1 h2=>cases h2; exact ⟨_,rfl,h1⟩
  cases h1
  have e:=Option.some.inj e;have e1:=(Prod.mk.inj e).1;have e2:=(Prod.mk.inj e).2;subst e2;refine .inl ⟨hC.enter _ _,(hC.empty none 0 E.w).mono ?_⟩;rintro e w' ⟨rfl,rfl⟩;refine ⟨_,rfl,E,rfl,rfl,hW,Ext.refl _ _,?_⟩;rw [← e1];cases len [] with
  | none=>exact ⟨[],.nil,rfl⟩
  | some m=>exact ⟨[.slice none 0 0],.cons VR.nilS .nil,rfl⟩
 ·-- empty
  obtain ⟨u,rfl,h1⟩ : ∃ u,cargs = [u] ∧ VR (okc X' E) E.w.heap .emp u:=by
   cases ha with
   | cons h1 h2=>cases h2; exact ⟨_,rfl,h1⟩
  cases h1
  rename_i a;have e:=Option.some.inj e;have e1:=(Prod.mk.inj e).1;have e2:=(Prod.mk.inj e).2;subst e2;refine .inl ⟨hC.enter _ _,(hC.empty (some a) 0 E.w).mono ?_⟩;rintro e w' ⟨rfl,rfl⟩;refine ⟨_,rfl,E,rfl,rfl,hW,Ext.refl _ _,?_⟩;rw [← e1];cases len [] with
  | none=>exact ⟨[],.nil,rfl⟩
  | some m=>exact ⟨[.slice (some a) 0 0],.cons (VR.emp a) .nil,rfl⟩
 ·rename_i b g off sz n
  split at e
  ·rename_i hc
   obtain ⟨rfl,rfl,hn⟩:=hc;split at e
   ·rename_i cs hrow
    split at e
    ·rename_i hfit
     split at e
     ·rename_i zs hz
      exact row_ok1 hC X ids E0 lent cargs hW ha hn hrow hfit hz e
     ·simp at e
    ·simp at e
   ·simp at e
  ·simp at e
 ·simp at e
end

def srtS (l : List (List UInt8)) : List (List UInt8):=l.mergeSort fun x y=>decide (x ≤ y)
def srtI (l : List Int) : List Int:=l.mergeSort fun x y=>decide (x ≤ y)
def cpR {α : Type} [Inhabited α] [DecidableEq α] (z : α) (l : List α) : List α:=Lib.compact l ++ List.replicate (l.length - (Lib.compact l).length) z
end Go.Abs

namespace Go.Abs
open Go.RowKit
inductive XK where
  | ixb | cmp | trim | atoi | rep | srtS | srtI | cpS | cpI | cont (g : Nat) | vstr (g3 g4 : Nat)
  deriving DecidableEq
def XK.ext : XK → Option (Nat ⊕ Nat × Nat)
  | .cont g=>some (.inl g)
  | .vstr g3 g4=>some (.inr (g3,g4))
  | _=>none
def utf1 : List Int:=(List.range 256).map fun c=>(Lib.firstT c : Int)
def utf2 : List Int:=(List.range 32).map fun i=>if i % 2 = 0 then (Lib.accLo (i / 2) : Int) else (Lib.accHi (i / 2) : Int)

def trimOk (s cs : List UInt8) : Bool:=decide (s.length ≤ 9223372036854775807) && decide (cs.length < 4294967281) && cs.all fun b=>decide (b.toNat < 128)

def xRun (k : Nat → Option XK) : Run:=fun f args bs =>
  match k f,args,bs with
  | some .ixb,[.c (.r (.i (.str s))),.c (.r (.i (.int .u8 n)))],[]=>some ([.c (I (.int .i64 (Lib.indexByte s n.toNat.toUInt8)))],[])
  | some .cmp,[.c (.r (.i (.str s))),.c (.r (.i (.str t)))],[]=>some ([.c (I (.int .i64 (Lib.compareBytes s t)))],[])
  | some .trim,[.c (.r (.i (.str s))),.c (.r (.i (.str cs)))],[]=>if trimOk s cs then some ([.c (I (.str (Lib.trimS s cs)))],[]) else none
  | some .atoi,[.c (.r (.i (.str s)))],[]=>if s.length ≤ 18 then match Lib.atoi s with
    | some n=>some ([.c (I (.int .i64 n)),.c (I .nilI)],[])
    | none=>none
    else none
  | some .rep,[.c (.r (.i (.str s))),.c (.r (.i (.int .i64 n)))],[]=>if 0 ≤ n ∧ n ≤ 1000000 ∧ s.length * n.toNat ≤ 1000000 then some ([.c (I (.str (Lib.repeatL s n.toNat)))],[]) else none
  | some .srtS,args,bs=>xRow XT.str srtS (fun _=>none) args bs
  | some .srtI,args,bs=>xRow XT.i64 srtI (fun _=>none) args bs
  | some .cpS,args,bs=>xRow XT.str (cpR []) (fun l=>some (Lib.compact l).length) args bs
  | some .cpI,args,bs=>xRow XT.i64 (cpR 0) (fun l=>some (Lib.compact l).length) args bs
  | some (.cont _),[.c (.r (.i (.str s))),.c (.r (.i (.str t)))],[]=>if s.length < 4294967281 then some ([.c (I (.bool (Lib.contains s t)))],[]) else none
  | some (.vstr _ _),[.c (.r (.i (.str s)))],[]=>if s.length ≤ 9223372036854775807 then some ([.c (I (.bool (Lib.validD s)))],[]) else none
  | _,_,_=>none

def XK.fn : XK → Array Value → Sem Value
  | .ixb=>Extern.BytealgIndexByte.indexByte
  | .cmp=>Extern.BytealgCompare.compare
  | .trim=>fun _=>pure (.bool false)
  | .atoi=>fun _=>pure (.bool false)
  | .rep=>fun _=>pure (.bool false)
  | _=>fun _=>pure (.bool false)

def contOk (P : Program) (f g : Nat) : Prop:=(∀ args w,(callFunc f args).run P w = .ok (.enter f args) w) ∧
  ∀ (s t : ByteArray) (m : Int) (w : World),s.size < 4294967281 → w.cell? ⟨g,0,none⟩ = some (.int .i64 m) →
    Calls P f #[.string s,.string t] w fun e w'=>e = .returned (.bool (Lib.contains s.data.toList t.data.toList)) ∧ w' = w
def vstrOk (P : Program) (f g3 g4 : Nat) : Prop:=(∀ args w,(callFunc f args).run P w = .ok (.enter f args) w) ∧
  ∀ (s : ByteArray) (w : World),s.size ≤ 9223372036854775807 → (∀ i,i < 256 → w.cell? ⟨g3,i,none⟩ = some (.int .u8 (utf1.getD i 0))) → (∀ i,i < 32 → w.cell? ⟨g4,i,none⟩ = some (.int .u8 (utf2.getD i 0))) →
    Calls P f #[.string s] w fun e w'=>e = .returned (.bool (Lib.validD s.data.toList)) ∧ Below w.heap.size w w'
def XOk (P : Program) (f : Nat) (k : XK) : Prop:=match k.ext with
  | some (.inl g)=>contOk P f g
  | some (.inr (g3,g4))=>vstrOk P f g3 g4
  | none=>if k = .trim then (∀ args w,(callFunc f args).run P w = .ok (.enter f args) w) ∧
    ∀ (s cs : ByteArray) (w : World),s.size ≤ 9223372036854775807 → cs.size < 4294967281 → (∀ (j : Nat) b,cs.data.toList[j]? = some b → b.toNat < 128) →
      Calls P f #[.string s,.string cs] w fun e w'=>e = .returned (.string ⟨(Lib.trimS s.data.toList cs.data.toList).toArray⟩) ∧ Below w.heap.size w w'
  else if k = .atoi then (∀ args w,(callFunc f args).run P w = .ok (.enter f args) w) ∧
    ∀ (s : ByteArray) (n : Int) (w : World),s.size ≤ 18 → Lib.atoi s.data.toList = some n →
      Calls P f #[.string s] w fun e w'=>e = .returned (.tuple #[.int .i64 n,.nilIface]) ∧ Below w.heap.size w w'
  else if k = .rep then (∀ args w,(callFunc f args).run P w = .ok (.enter f args) w) ∧
    ∀ (s : ByteArray) (c : Nat) (w : World),c ≤ 1000000 → s.size * c ≤ 1000000 →
      Calls P f #[.string s,.int .i64 c] w fun e w'=>e = .returned (.string ⟨(Lib.repeatL s.data.toList c).toArray⟩) ∧ Below w.heap.size w w'
  else if k = .srtS then RowC P f XT.str srtS fun _=>none
  else if k = .srtI then RowC P f XT.i64 srtI fun _=>none
  else if k = .cpS then RowC P f XT.str (cpR []) fun l=>some (Lib.compact l).length
  else if k = .cpI then RowC P f XT.i64 (cpR 0) fun l=>some (Lib.compact l).length
  else ∃ fn,P.funcs[f]? = some fn ∧ (fn.name == "runtime.NumGoroutine") = false ∧ fn.body.isNone = true ∧ Extern.findNext fn = none ∧ Extern.find fn = some k.fn

section
variable {P : Program} {X : Cx} {E : Env} {G : Nat → List IV}

def XTab (G : Nat → List IV) (k : XK) : Prop:=match k.ext with
  | some (.inl g)=>∃ m,G g = [.int .i64 m]
  | some (.inr (g3,g4))=>G g3 = utf1.map (IV.int .u8) ∧ G g4 = utf2.map (IV.int .u8)
  | none=>True
theorem gcell {X : Cx} {E : Env} (hW : WR X E) (hG : GOk X G) {g i : Nat} {k : IntKind} {n : Int} (h : (G g)[i]? = some (.int k n)) : E.w.cell? ⟨g,i,none⟩ = some (.int k n):=by
 obtain ⟨h1,h2,cc,e,fr,h3,h4⟩:=hG g (by rintro q; simp [q] at h);have h5 : E.w.heap[g]? = some (.cells cc e fr):=by rw [hW.still g h1 h2]; exact h3
 obtain ⟨v,q1,q2⟩:=h4 i _ h;rw [cell_of_heap h5,q1]
 have:=q2 (fun _ _=>True) #[]
 cases this
 rfl
theorem gcells {X : Cx} {E : Env} (hW : WR X E) (hG : GOk X G) {g : Nat} {k : IntKind} {zs : List Int} (h : G g = zs.map (IV.int k)) : ∀ i,i < zs.length → E.w.cell? ⟨g,i,none⟩ = some (.int k (zs.getD i 0)):=by
 intro i hi;refine gcell hW hG (i:=i) ?_;rw [h];simp [hi,List.getD]
theorem xRun_ok {k : Nat → Option XK} (hk : ∀ f x,k f = some x → XOk P f x) (ht : ∀ f x,k f = some x → XTab G x) : RunOk P G (xRun k):=by
 intro f args bs rs h e X ids E0 lent cargs X' E hW hG ha;have two : ∀ {a b : IV},args = [.c (.r (.i a)),.c (.r (.i b))] → ∃ u v,cargs = [u,v] ∧ VR (okc X' E) E.w.heap a u ∧ VR (okc X' E) E.w.heap b v:=fun {a b} q=>by
  subst q;cases ha with
  | cons h1 h2=>cases h2 with
   | cons h2 h3=>cases h3; exact ⟨_,_,rfl,h1,h2⟩
 have fin : ∀ {n : Int},rs = [.c (I (.int .i64 n))] → h = [] → (callFunc f cargs.toArray).run P E.w = .ok (.value (.int .i64 n)) E.w → bs = [] →
   CallOk P f cargs.toArray E.w fun v w'=>∃ E',E'.w = w' ∧ E'.h = h ∧ WR X' E' ∧ Ext X' E E' ∧ ∃ vs,All2 (A1R X' E') rs vs ∧ v = retV vs:=fun {n} q1 q2 q3 q4=>by
  subst q1; subst q2; subst q4;exact .inr ⟨_,E.w,q3,E,rfl,rfl,hW,Ext.refl _ _,[.int .i64 n],.cons (VR.int _ _) .nil,rfl⟩
 simp only [xRun] at e;split at e
 ·rename_i s n hkf
  simp at e;obtain ⟨u,v,rfl,h1,h2⟩:=two rfl;have hx:=hk f _ hkf;simp only [XOk,XK.ext,reduceCtorEq,if_false] at hx;obtain ⟨fn,q1,q2,q3,q4,q5⟩:=hx;cases h1 with
  | str _ z hz =>
   cases h2
   subst hz;refine fin e.1.symm e.2 ?_ rfl;rw [show ([Value.string z,Value.int .u8 n].toArray) = #[Value.string z,Value.int .u8 n] from rfl,run_callFunc_extern q1 q2 q3 q4 q5];simp only [XK.fn,Lib.run_indexByteString,Result.andThen]
 ·rename_i s t hkf
  simp at e;obtain ⟨u,v,rfl,h1,h2⟩:=two rfl;have hx:=hk f _ hkf;simp only [XOk,XK.ext,reduceCtorEq,if_false] at hx;obtain ⟨fn,q1,q2,q3,q4,q5⟩:=hx;cases h1 with
  | str _ y hy =>
   cases h2 with
   | str _ z hz =>
    subst hy; subst hz;refine fin e.1.symm e.2 ?_ rfl;rw [show ([Value.string y,Value.string z].toArray) = #[Value.string y,Value.string z] from rfl,run_callFunc_extern q1 q2 q3 q4 q5];simp only [XK.fn,Lib.run_compareString,Result.andThen]
 ·rename_i s t hkf
  split at e
  ·rename_i hok
   simp at e;obtain ⟨u,v,rfl,h1,h2⟩:=two rfl;have hx:=hk f _ hkf;simp only [XOk,XK.ext,if_true] at hx;obtain ⟨hen,hx⟩:=hx;obtain ⟨rfl,rfl⟩:=e;simp only [trimOk,Bool.and_eq_true,decide_eq_true_eq,List.all_eq_true] at hok;cases h1 with
   | str _ y hy =>
    cases h2 with
    | str _ z hz =>
     subst hy; subst hz;refine .inl ⟨hen _ _,(hx y z E.w (by rw [Lib.size_eq]; exact hok.1.1) (by rw [Lib.size_eq]; exact hok.1.2) fun j b hb=>hok.2 b (List.mem_of_getElem? hb)).mono ?_⟩;rintro e w' ⟨rfl,hb⟩;refine ⟨_,rfl,{ E with w:=w' },rfl,rfl,⟨fun b x hx=>by simp [E,calleeE,Heap.get] at hx,fun b b' hx=>by simp [E,calleeE,Heap.get] at hx,Nat.le_trans hW.size hb.size,fun c hc ha=>?_,hb.os.trans hW.os,hb.tape.trans hW.tape,hb.output.trans hW.output,hW.f1,hW.a0,fun c o hc=>⟨(hb.block c (Array.getElem?_eq_some_iff.1 (hW.hid c o hc).1).1).trans (hW.hid c o hc).1,(hW.hid c o hc).2.1,(hW.hid c o hc).2.2⟩⟩,
      ⟨Nat.le_refl _,fun b g _ h=>by simp [E,calleeE,Heap.cur,Heap.get] at h,fun t c hc ho=>⟨ho,hb.block c hc⟩⟩,[.string ⟨(Lib.trimS y.data.toList z.data.toList).toArray⟩],.cons (VR.str _ _ (by simp)) .nil,rfl⟩
     exact (hb.block c (Nat.lt_of_lt_of_le hc hW.size)).trans (hW.still c hc ha)
  ·simp at e
 ·rename_i s hkf
  split at e
  ·rename_i hok
   split at e
   ·rename_i n hn
    simp at e;obtain ⟨u,rfl,h1⟩ : ∃ u,cargs = [u] ∧ VR (okc X' E) E.w.heap (.str s) u:=by
     cases ha with
     | cons h1 h2=>cases h2; exact ⟨_,rfl,h1⟩
    have hx:=hk f _ hkf;simp only [XOk,XK.ext,reduceCtorEq,if_false,if_true] at hx;obtain ⟨hen,hx⟩:=hx;obtain ⟨rfl,rfl⟩:=e;cases h1 with
    | str _ y hy =>
     subst hy;refine .inl ⟨hen _ _,(hx y n E.w (by rw [Lib.size_eq]; exact hok) hn).mono ?_⟩;rintro e w' ⟨rfl,hb⟩;refine ⟨_,rfl,{ E with w:=w' },rfl,rfl,⟨fun b x hx=>by simp [E,calleeE,Heap.get] at hx,fun b b' hx=>by simp [E,calleeE,Heap.get] at hx,Nat.le_trans hW.size hb.size,fun c hc ha=>?_,hb.os.trans hW.os,hb.tape.trans hW.tape,hb.output.trans hW.output,hW.f1,hW.a0,fun c o hc=>⟨(hb.block c (Array.getElem?_eq_some_iff.1 (hW.hid c o hc).1).1).trans (hW.hid c o hc).1,(hW.hid c o hc).2.1,(hW.hid c o hc).2.2⟩⟩,
      ⟨Nat.le_refl _,fun b g _ h=>by simp [E,calleeE,Heap.cur,Heap.get] at h,fun t c hc ho=>⟨ho,hb.block c hc⟩⟩,[.int .i64 n,.nilIface],.cons (VR.int _ _) (.cons VR.nilI .nil),rfl⟩
     exact (hb.block c (Nat.lt_of_lt_of_le hc hW.size)).trans (hW.still c hc ha)
   ·simp at e
  ·simp at e
 ·rename_i s n hkf
  split at e
  ·rename_i hok
   simp at e;obtain ⟨u,v,rfl,h1,h2⟩:=two rfl;have hx:=hk f _ hkf;simp only [XOk,XK.ext,reduceCtorEq,if_false,if_true] at hx;obtain ⟨hen,hx⟩:=hx;obtain ⟨rfl,rfl⟩:=e;obtain ⟨c,rfl⟩:=Int.eq_ofNat_of_zero_le hok.1;cases h1 with
   | str _ y hy =>
    cases h2
    subst hy;refine .inl ⟨hen _ _,(hx y c E.w (by omega) (by rw [Lib.size_eq]; simpa using hok.2.2)).mono ?_⟩;rintro e w' ⟨rfl,hb⟩;refine ⟨_,rfl,{ E with w:=w' },rfl,rfl,⟨fun b x hx=>by simp [E,calleeE,Heap.get] at hx,fun b b' hx=>by simp [E,calleeE,Heap.get] at hx,Nat.le_trans hW.size hb.size,fun c hc ha=>?_,hb.os.trans hW.os,hb.tape.trans hW.tape,hb.output.trans hW.output,hW.f1,hW.a0,fun c o hc=>⟨(hb.block c (Array.getElem?_eq_some_iff.1 (hW.hid c o hc).1).1).trans (hW.hid c o hc).1,(hW.hid c o hc).2.1,(hW.hid c o hc).2.2⟩⟩,
     ⟨Nat.le_refl _,fun b g _ h=>by simp [E,calleeE,Heap.cur,Heap.get] at h,fun t c hc ho=>⟨ho,hb.block c hc⟩⟩,[.string ⟨(Lib.repeatL y.data.toList c).toArray⟩],.cons (VR.str _ _ (by simp)) .nil,rfl⟩
    exact (hb.block _ (Nat.lt_of_lt_of_le hc hW.size)).trans (hW.still _ hc ha)
  ·simp at e
 ·rename_i hkf
  have hx:=hk f _ hkf;simp only [XOk,XK.ext,reduceCtorEq,if_false,if_true] at hx;exact row_ok hx e X ids E0 lent cargs hW hG ha
 ·rename_i hkf
  have hx:=hk f _ hkf;simp only [XOk,XK.ext,reduceCtorEq,if_false,if_true] at hx;exact row_ok hx e X ids E0 lent cargs hW hG ha
 ·rename_i hkf
  have hx:=hk f _ hkf;simp only [XOk,XK.ext,reduceCtorEq,if_false,if_true] at hx;exact row_ok hx e X ids E0 lent cargs hW hG ha
 ·rename_i hkf
  have hx:=hk f _ hkf;simp only [XOk,XK.ext,reduceCtorEq,if_false,if_true] at hx;exact row_ok hx e X ids E0 lent cargs hW hG ha
 ·rename_i g s t hkf
  split at e
  ·rename_i hok
   simp at e;obtain ⟨u,v,rfl,h1,h2⟩:=two rfl;obtain ⟨hen,hx⟩ : contOk P f g:=hk f _ hkf;obtain ⟨m,hm⟩ : ∃ m,G g = [.int .i64 m]:=ht f _ hkf;have hc:=gcell hW hG (g:=g) (i:=0) (k:=.i64) (n:=m) (by rw [hm]; rfl);obtain ⟨rfl,rfl⟩:=e;cases h1 with
   | str _ y hy =>
    cases h2 with
    | str _ z hz =>
     subst hy; subst hz;refine .inl ⟨hen _ _,(hx y z m E.w (by rw [Lib.size_eq]; exact hok) hc).mono ?_⟩;rintro e w' ⟨rfl,rfl⟩;exact ⟨_,rfl,E,rfl,rfl,hW,Ext.refl _ _,[.bool _],.cons (VR.bool _) .nil,rfl⟩
  ·simp at e
 ·rename_i g3 g4 s hkf
  split at e
  ·rename_i hok
   simp at e;obtain ⟨u,rfl,h1⟩ : ∃ u,cargs = [u] ∧ VR (okc X' E) E.w.heap (.str s) u:=by
    cases ha with
    | cons h1 h2=>cases h2; exact ⟨_,rfl,h1⟩
   obtain ⟨hen,hx⟩ : vstrOk P f g3 g4:=hk f _ hkf;obtain ⟨hm3,hm4⟩ : G g3 = utf1.map (IV.int .u8) ∧ G g4 = utf2.map (IV.int .u8):=ht f _ hkf;have hc3:=gcells hW hG hm3;have hc4:=gcells hW hG hm4;obtain ⟨rfl,rfl⟩:=e;cases h1 with
   | str _ y hy =>
    subst hy;refine .inl ⟨hen _ _,(hx y E.w (by rw [Lib.size_eq]; exact hok) (fun i hi=>hc3 i (by simpa [utf1] using hi)) (fun i hi=>hc4 i (by simpa [utf2] using hi))).mono ?_⟩;rintro e w' ⟨rfl,hb⟩;refine ⟨_,rfl,{ E with w:=w' },rfl,rfl,⟨fun b x hx=>by simp [E,calleeE,Heap.get] at hx,fun b b' hx=>by simp [E,calleeE,Heap.get] at hx,Nat.le_trans hW.size hb.size,fun c hc ha=>?_,hb.os.trans hW.os,hb.tape.trans hW.tape,hb.output.trans hW.output,hW.f1,hW.a0,fun c o hc=>⟨(hb.block c (Array.getElem?_eq_some_iff.1 (hW.hid c o hc).1).1).trans (hW.hid c o hc).1,(hW.hid c o hc).2.1,(hW.hid c o hc).2.2⟩⟩,
     ⟨Nat.le_refl _,fun b g _ h=>by simp [E,calleeE,Heap.cur,Heap.get] at h,fun t c hc ho=>⟨ho,hb.block c hc⟩⟩,[.bool _],.cons (VR.bool _) .nil,rfl⟩
    exact (hb.block c (Nat.lt_of_lt_of_le hc hW.size)).trans (hW.still c hc ha)
  ·simp at e
 ·simp at e

def topX (W : World) : Cx:={ w0:=W,A0:=fun _ _=>False,F1:=fun c=>c < W.heap.size }
def topE (W : World) : Env:={ h:=[],m:=fun _=>(0,0),ct:=1,w:=W }

theorem top_wr (W : World) : WR (topX W) (topE W) :=
 ⟨fun b x h=>by simp [topE,Heap.get] at h,fun b b' h=>by simp [topE,Heap.get] at h,Nat.le_refl _,fun _ _ _=>rfl,rfl,rfl,rfl,fun c h=>⟨h,by rintro ⟨b,h⟩; exact h⟩,fun b c h=>absurd h id,fun c o h=>by simp [topX] at h⟩

theorem law_calls {F : Nat → Option Fn} {Xr : Run} (hF : ∀ f fn,F f = some fn → okFn P f fn = true) (hX : RunOk P G Xr) {f : Nat} {fn : Fn} (hf : F f = some fn) {W : World} (hG : GOk (topX W) G)
  {iv : IV} {v : Value} (hv : VR (fun t c=>t ≠ 0 ∧ c < W.heap.size) W.heap iv v) (hrun : ∃ n d h,run G F Xr n d f [.c (I iv)] [] = some ([.c (I (.bool true))],h)) :
  Calls P f #[v] W fun e W'=>e = .returned (.bool true) ∧ Below W.heap.size W W':=by
 obtain ⟨n,d,h,hrun⟩:=hrun;have hW : WR (calleeX (topX W) (topE W) [] true) (calleeE (topE W) [] []):=callee_wr (top_wr W) rfl rfl;have hk : ∀ t c,c < W.heap.size → (t ≠ 0 ∧ c < W.heap.size) → okc (calleeX (topX W) (topE W) [] true) (calleeE (topE W) [] []) t c ∧ W.heap[c]? = W.heap[c]?:=fun t c hc ht =>
  ⟨.inr ⟨ht.1,hc,by simp,.inl rfl⟩,rfl⟩
 have hv' : VR (okc (calleeX (topX W) (topE W) [] true) (calleeE (topE W) [] [])) W.heap iv v:=VR.mono hk hv;have hc:=run_sound hF hX n d f [.c (I iv)] [] _ h hrun (topX W) [] (topE W) true [v] hW (callee_gok (top_wr W) hG) (.cons hv' .nil);have hent : (callFunc f #[v]).run P W = .ok (.enter f #[v]) W:=by
  have hok:=hF f fn hf;unfold okFn at hok;split at hok
  ·rename_i g hg
   split at hok
   ·rename_i c hc
    simp at hok;obtain ⟨_,hname⟩:=hok;simp [callFunc,hg,hname,hc]
   ·simp at hok
  ·simp at hok
 rcases hc with ⟨_,hc⟩ | ⟨v',w',h1,_⟩
 ·refine hc.mono ?_
  rintro e w' ⟨x,rfl,E',rfl,h2,h3,h4,vs,h5,rfl⟩;refine ⟨?_,h3.os,h3.tape,h3.output,h3.size,fun k hk=>h3.still k hk (by rintro ⟨b,i,b',_,q,_⟩; simp at q)⟩;cases h5 with
  | cons r h6 =>
   cases h6
   cases r
   rfl
 ·have : (callFunc f #[v]).run P W = .ok (.value v') w':=h1
  rw [hent] at this;simp at this

theorem ints_vr {W : World} {k : IntKind} {a : Addr} {len cap : Nat} {zs : List Int} (hl : len ≤ cap) (hz : len ≤ zs.length) (hcell : ∀ i,i < zs.length → W.cell? (a.add i) = some (.int k (zs.getD i 0))) :
  VR (fun t c=>t ≠ 0 ∧ c < W.heap.size) W.heap (.lit 1 ((zs.take len).map (.int k)) len) (.slice (some a) len cap):=by
 by_cases h0 : len = 0
 ·subst h0
  simp only [List.take_zero,List.map_nil];exact VR.lit0 _ _ _ _ hl
 ·have h0 : 0 < len:=by omega
  obtain ⟨b,off,spot⟩:=a;have hc0:=hcell 0 (by omega);have hspot : spot = none:=by simpa [Addr.add] using World.cell?_spot hc0
  subst hspot;have hadd : ∀ i,(⟨b,off,none⟩ : Addr).add i = ⟨b,off + i,none⟩:=fun i=>by unfold Addr.add; split <;> simp_all
  rw [hadd] at hc0;have hex : ∃ cs e fr,W.heap[b]? = some (.cells cs e fr):=by
   unfold World.cell? at hc0;simp only at hc0;split at hc0
   ·rename_i cs e fr h; exact ⟨cs,e,fr,h⟩
   ·simp at hc0
  obtain ⟨cs,e,fr,hb⟩:=hex;have hcs : ∀ i,i < zs.length → cs[off + i]? = some (.int k (zs.getD i 0)):=fun i hi=>by
   have:=hcell i hi
   rw [hadd,cell_of_heap hb] at this;exact this
  refine VR.lit 1 _ len b off cap cs e fr ((zs.take len).map (.int k)) ⟨by simp,(Array.getElem?_eq_some_iff.1 hb).1⟩ hb (by simp) (fun i v hv=>?_) (fun i x v hx hv=>?_) hl
  ·rw [List.getElem?_map] at hv
   cases hq : (zs.take len)[i]? with
   | none=>simp [hq] at hv
   | some z =>
    simp [hq] at hv;subst hv;have hi : i < zs.length:=by
     have:=(List.getElem?_eq_some_iff.1 hq).1
     simp at this; omega
    rw [hcs i hi];rw [List.getElem?_take] at hq;split at hq
    ·simp [List.getD,hq]
    ·simp at hq
  ·rw [List.getElem?_map] at hx hv
   cases hq : (zs.take len)[i]? with
   | none=>simp [hq] at hv
   | some z =>
    simp [hq] at hx hv;subst hx; subst hv;exact VR.int _ _

def tabG (g : Nat) (k : IntKind) (zs : List Int) : Nat → List IV:=fun g'=>if g' = g then zs.map (.int k) else []

theorem tab_gok {W : World} {g : Nat} {k : IntKind} {zs : List Int} (hne : 0 < zs.length) (h : ∀ i,i < zs.length → W.cell? ⟨g,i,none⟩ = some (.int k (zs.getD i 0))) : GOk (topX W) (tabG g k zs):=by
 intro g' hg';unfold tabG at hg';split at hg'
 ·rename_i e
  subst e;have hc0:=h 0 hne;have hex : ∃ cs e fr,W.heap[g']? = some (.cells cs e fr):=by
   unfold World.cell? at hc0;simp only at hc0;split at hc0
   ·rename_i cs e fr h; exact ⟨cs,e,fr,h⟩
   ·simp at hc0
  obtain ⟨cs,e,fr,hb⟩:=hex;refine ⟨(Array.getElem?_eq_some_iff.1 hb).1,by rintro ⟨b,q⟩; exact q,cs,e,fr,hb,fun i x hx=>?_⟩;simp only [tabG,if_true,List.getElem?_map] at hx;cases hq : zs[i]? with
  | none=>simp [hq] at hx
  | some z =>
   simp [hq] at hx;subst hx;have hi:=(List.getElem?_eq_some_iff.1 hq).1
   have:=h i hi
   rw [cell_of_heap hb] at this;refine ⟨_,this,fun p hh=>?_⟩;have : zs.getD i 0 = z:=by simp [List.getD,hq]
   rw [this];exact VR.int _ _
 ·exact absurd rfl hg'

def tabsG : List (Nat × IntKind × List Int) → Nat → List IV
  | [],_=>[]
  | (g,k,zs) :: l,g'=>if g' = g then zs.map (.int k) else tabsG l g'


end
end Go.Abs

namespace Go.Abs
section
variable {nt : Nat} {σ : Sl} {hp : Heap} {ct d : Nat} {R : Run} {Q : Sl → Heap → Nat → Prop} {l : List Ins}

end
structure S1 (κ : Type) where
  k : Nat
  iv : κ → IV
  dec : DecidableEq κ
  eq : ∀ a b,eqCellK k (I (iv a)) (I (iv b)) = some (decide (a = b))
  kind : ∀ a,kindC (I (iv a)) = k
  lt : k < 3
  back : ∀ h pl l a,backC h pl l (I (iv a)) = some (I (iv a))
def S1.int (k : IntKind) : S1 Int:=⟨0,.int k,inferInstance,fun a b=>by simp only [eqCellK,if_true]; rfl,fun a=>rfl,by decide,fun _ _ l _=>by cases l <;> rfl⟩
def S1.str : S1 (List UInt8):=⟨1,.str,inferInstance,fun a b=>by simp only [eqCellK]; congr 1; rw [Bool.eq_iff_iff]; simp,fun a=>rfl,by decide,fun _ _ l _=>by cases l <;> rfl⟩
structure SK (κ : Type) where
  kt : Nat
  a1 : κ → A1
  dec : DecidableEq κ
  eq : ∀ a b,eqKey (a1 a) (a1 b) = some (decide (a = b))
  plain : ∀ a,plainKey kt (.v (a1 a)) = some (a1 a)
  back : ∀ h pl l a,back1 h pl l (a1 a) = some (a1 a)
def SK.int (k : IntKind) : SK Int:=⟨0,fun n=>.c (I (.int k n)),inferInstance,fun a b=>by simp only [eqKey,eqCell,if_true]; rfl,fun a=>rfl,fun _ _ l _=>by cases l <;> rfl⟩
def SK.str : SK (List UInt8):=⟨1,fun n=>.c (I (.str n)),inferInstance,fun a b=>by simp only [eqKey,eqCell]; congr 1; rw [Bool.eq_iff_iff]; simp,fun a=>rfl,fun _ _ l _=>by cases l <;> rfl⟩
theorem ksOf_two {a b : Nat} (ha : a < 3) (hb : b < 3) : ksOf (3 + (a + 1) + 4 * (b + 1)) = [a,b]:=by
 have h1 : a = 0 ∨ a = 1 ∨ a = 2:=by omega
 have h2 : b = 0 ∨ b = 1 ∨ b = 2:=by omega
 clear ha hb;rcases h1 with rfl | rfl | rfl <;> rcases h2 with rfl | rfl | rfl <;> rfl
def SK.two {κ β : Type} (A : S1 κ) (B : S1 β) : SK (κ × β) where
  kt:=3 + (A.k + 1) + 4 * (B.k + 1)
  a1:=fun p=>.agg [I (A.iv p.1),I (B.iv p.2)]
  dec:=@instDecidableEqProd _ _ A.dec B.dec
  eq:=fun a b=>by
    obtain ⟨a1,a2⟩:=a; obtain ⟨b1,b2⟩:=b
    simp only [eqKey,List.map_cons,List.map_nil,A.kind,B.kind,eqCellsK,A.eq,B.eq]
    congr 1
    rw [Bool.eq_iff_iff]
    simp
  plain:=fun a=>by
    have:=ksOf_two A.lt B.lt
    simp only [plainKey,this,eqCellsK,A.eq,B.eq,decide_true,Bool.and_self,and_true]
    rw [if_pos (by omega)]
  back:=fun h pl l a=>by simp only [back1,traverse,A.back,B.back,Option.map_some]

def mget {κ β : Type} [DecidableEq κ] (m : List (κ × β)) (k : κ) : Option β:=match m with
  | []=>none
  | (a,b) :: m=>if a = k then some b else mget m k
def mput {κ β : Type} [DecidableEq κ] (m : List (κ × β)) (k : κ) (v : β) : List (κ × β):=match m with
  | []=>[(k,v)]
  | (a,b) :: m=>if a = k then (k,v) :: m else (a,b) :: mput m k v

section
variable {κ β : Type} [D : DecidableEq κ] {K : SK κ} {iv : β → IV}
def EntsOk (K : SK κ) (iv : β → IV) (es : List Ent) (m : List (κ × β)) : Prop:=All2 (fun (e : Ent) (p : κ × β)=>e.key = K.a1 p.1 ∧ e.val = .c (I (iv p.2))) es m
theorem EntsOk.find {es : List Ent} {m : List (κ × β)} (h : EntsOk K iv es m) (k : κ) : findEnt (K.a1 k) es = some ((mget m k).map fun v=>.c (I (iv v))):=by
 induction h with
 | nil=>rfl
 | cons r _ ih =>
  rename_i e p l m' _;obtain ⟨a,b⟩:=p;obtain ⟨h1,h2⟩:=r;simp only [findEnt,h1,K.eq];by_cases hk : k = a
  ·subst hk; simp [mget,h2]
  ·have hk' : ¬ a = k:=fun q=>hk q.symm
   simp only [hk,decide_false,mget,hk',if_false];exact ih
theorem EntsOk.set {es : List Ent} {m : List (κ × β)} (h : EntsOk K iv es m) (k : κ) (v : β) (hs : (mget m k).isSome = true) : EntsOk K iv (setEnt (K.a1 k) (.c (I (iv v))) es) (mput m k v):=by
 induction h with
 | nil=>simp [mget] at hs
 | cons r r2 ih =>
  rename_i e p l m';obtain ⟨a,b⟩:=p;obtain ⟨h1,h2⟩:=r;simp only [setEnt,h1,K.eq];by_cases hk : k = a
  ·subst hk; simp only [decide_true,mput,if_true]; exact .cons ⟨rfl,rfl⟩ r2
  ·have hk' : ¬ a = k:=fun q=>hk q.symm
   simp only [hk,decide_false,mput,hk',if_false];exact .cons ⟨h1,h2⟩ (ih (by simpa [mget,hk'] using hs))
theorem mput_new {m : List (κ × β)} {k : κ} {v : β} (h : mget m k = none) : mput m k v = m ++ [(k,v)]:=by
 induction m with
 | nil=>rfl
 | cons p m ih =>
  obtain ⟨a,b⟩:=p;simp only [mget] at h;split at h
  ·simp at h
  ·rename_i hk; simp only [mput,hk,if_false,ih h,List.cons_append]

def mp (P : List Nat) (K : SK κ) (iv : β → IV) (hp : Heap) (a : AC) (m : List (κ × β)) : Prop:=∃ b g es clk,b ∈ P ∧ a = .r (.map b g) ∧ hp.get b = some (.map g es clk) ∧ EntsOk K iv es m
omit D in
theorem mp.fr {P P' : List Nat} {hp hp' : Heap} {a : AC} {m : List (κ × β)} (h : mp P K iv hp a m) (k : Fr P' hp hp') (hd : P.all (fun b=>!P'.contains b) = true) : mp P K iv hp' a m:=by
 obtain ⟨b,g,es,clk,h1,h2,h3,h4⟩:=h
 have:=List.all_eq_true.1 hd b h1
 exact ⟨b,g,es,clk,h1,h2,(k b (by simpa using this)).trans h3,h4⟩
omit D in
theorem mp.wide {P P' : List Nat} {hp : Heap} {a : AC} {m : List (κ × β)} (h : mp P K iv hp a m) (hd : P.all (fun b=>P'.contains b) = true) : mp P' K iv hp a m:=by
 obtain ⟨b,g,es,clk,h1,h2,h3,h4⟩:=h
 have:=List.all_eq_true.1 hd b h1
 exact ⟨b,g,es,clk,by simpa using this,h2,h3,h4⟩
omit D in
theorem EntsOk.len {es : List Ent} {m : List (κ × β)} (h : EntsOk K iv es m) : es.length = m.length:=(All2.length h).symm
end

section
variable {κ β : Type} [D : DecidableEq κ] {K : SK κ} {iv : β → IV} {nt : Nat} {σ : Sl} {hp : Heap} {ct d : Nat} {G : Nat → List IV} {R : Run} {Q : Sl → Heap → Nat → Prop} {l : List Ins} {P : List Nat} {a : AC} {m : List (κ × β)} {x ko vo : Opd}

theorem mapAt_of {b g clk : Nat} {es : List Ent} (h : hp.get b = some (.map g es clk)) : hp.mapAt b g = some (es,clk):=by simp [Heap.mapAt,h]

omit D in
omit D in
end
section
variable {nt : Nat} {σ : Sl} {hp : Heap} {ct d : Nat} {G : Nat → List IV} {R : Run} {Q : Sl → Heap → Nat → Prop} {l : List Ins}

inductive PartsI (nt : Nat) (σ : Sl) : Nat → List (Nat × Opd) → List IV → Prop
  | nil {k : Nat} : PartsI nt σ k [] []
  | cons {k : Nat} {x : Opd} {v : IV} {l : List (Nat × Opd)} {vs : List IV} (h : evσ nt σ x = .v (.c (I v))) (r : PartsI nt σ (k + 1) l vs) : PartsI nt σ k ((k,x) :: l) (v :: vs)

theorem PartsI.parts {k : Nat} {parts : List (Nat × Opd)} {vs : List IV} (h : PartsI nt σ k parts vs) : PartsP nt σ parts ((vs.zipIdx k).map fun (v,i)=>(i,.c (I v))):=by
 induction h with
 | nil=>exact .nil
 | cons h _ ih=>exact .cons h ih
theorem PartsI.len {k : Nat} {parts : List (Nat × Opd)} {vs : List IV} (h : PartsI nt σ k parts vs) : vs.length = parts.length:=by
 induction h with
 | nil=>rfl
 | cons _ _ ih=>simp [ih]
theorem fill_one (vs : List IV) : ∀ (k : Nat) (pre : List AC) (rest : List AC),pre.length = k → rest.length = vs.length →
  fillS 1 (pre ++ rest) ((vs.zipIdx k).map fun (v,i)=>(i,.c (I v))) = some (pre ++ vs.map I):=by
 induction vs with
 | nil=>intro k pre rest _ h2; simp at h2; subst h2; simp [fillS]
 | cons v vs ih =>
  intro k pre rest h1 h2;cases rest with
  | nil=>simp at h2
  | cons r rest =>
   simp only [List.zipIdx_cons,List.map_cons,fillS];rw [if_pos (by simp [A1.cells]; omega)];have e : lay (pre ++ r :: rest) (k * 1) (A1.c (I v)).cells = (pre ++ [I v]) ++ rest:=by
    simp only [lay,Nat.mul_one,A1.cells,List.length_cons,List.length_nil,← h1];simp
   rw [e,ih (k + 1) (pre ++ [I v]) rest (by simp [h1]) (by simpa using h2)];simp
theorem repC_len1 (n : Nat) (z : IV) : (repC n [z]).length = n:=by
 induction n with
 | zero=>rfl
 | succ n ih=>simp [repC,ih]
theorem k_bslI {len : Nat} {z : IV} {parts : List (Nat × Opd)} {vs : List IV} (hp1 : PartsI nt σ 0 parts vs) (hb : len ≤ 16777216) (hl : vs.length = len) (n : wpL G R nt l Q (upd σ d (V (.lit 0 vs len))) hp ct) :
  wpL G R nt (.op (some d) none (.bsl 1 len [z] parts false) :: l) Q σ hp ct :=
 k_bslL hp1.parts ⟨by omega,rfl⟩ (by have:=fill_one vs 0 [] (repC len [z]) rfl (by rw [repC_len1,hl]); simpa using this) n
end
section
variable {nt : Nat} {σ : Sl} {hp : Heap} {ct d : Nat} {G : Nat → List IV} {R : Run} {Q : Sl → Heap → Nat → Prop} {l : List Ins}

end
def nn (a : AC) : Prop:=∃ b g off sz n,a = .r (.sl b g off sz n)
theorem nn_sl {b g off sz n : Nat} : nn (.r (.sl b g off sz n)):=⟨b,g,off,sz,n,rfl⟩

theorem so.nnp {α : Type} {P : List Nat} {E : Rep α} {f : Bool} {hp : Heap} {a : AC} {xs : List α} (h : so P E f hp a xs) (hn : nn a) :
  ∃ b g off cs c,b ∈ P ∧ a = .r (.sl b g off E.sz xs.length) ∧ hp.row b g = some (List.map I cs) ∧ rows E f c xs ∧ off + xs.length * E.sz ≤ cs.length ∧ (cs.drop off).take (xs.length * E.sz) = c:=by
 rcases h with ⟨rfl,_⟩ | ⟨rfl,_⟩ | h
 ·obtain ⟨_,_,_,_,_,e⟩:=hn; simp at e
 ·obtain ⟨_,_,_,_,_,e⟩:=hn; simp at e
 ·exact h

theorem rows_strong {α : Type} {E : Rep α} (h : ∀ c x,E.rp false c x → E.rp true c x) : ∀ {l : List α} {c : List IV},rows E false c l → rows E true c l
 | [],_,r=>r
 | _ :: _,_,⟨a,b,e,r1,r2⟩=>⟨a,b,e,h a _ r1,rows_strong h r2⟩



section
variable {nt : Nat} {σ : Sl} {hp : Heap} {ct d : Nat} {G : Nat → List IV} {R : Run} {Q : Sl → Heap → Nat → Prop} {l : List Ins}

theorem k_bslIN {α : Type} {E : Rep α} {f : Bool} {len : Nat} {z : IV} {parts : List (Nat × Opd)} {vs : List IV} {xs : List α} (hp1 : PartsI nt σ 0 parts vs) (hb : len ≤ 16777216) (hl : vs.length = len)
  (hr : rows E f vs xs) (hl2 : xs.length = len) (hz : E.sz = 1) (nx : ∀ a' hp',so [d] E f hp' a' xs → nn a' → Fr [d] hp hp' → wpL G R nt l Q (upd σ d (.v (.c a'))) hp' (ct + 1)) : wpL G R nt (.op (some d) none (.bsl 1 len [z] parts true) :: l) Q σ hp ct:=by
 have hrl:=rows_len hr;have hv : fillS 1 (repC len [z]) ((vs.zipIdx 0).map fun (v,i)=>(i,A1.c (I v))) = some (vs.map I):=by have:=fill_one vs 0 [] (repC len [z]) rfl (by rw [repC_len1,hl]); simpa using this
 refine k_op (v:=.v (.c (.r (.sl d ct 0 1 len)))) (hp':=hp.set d (.cells ct (vs.map I))) (ct':=ct + 1) ?_ (nx _ _ (.inr (.inr ⟨d,ct,0,vs,vs,by simp,by rw [hz,hl2],by simp [Heap.row,Heap.get_set],hr,by omega,by rw [List.drop_zero,List.take_of_length_le (by omega)]⟩)) nn_sl (Fr.set _ _ _));rw [x_bsl,hp1.parts.ev];have hb2 : len * 1 ≤ 16777216 ∧ [z].length = 1:=⟨by omega,rfl⟩;simp only [hv,if_pos hb2,if_true];rfl


end
def heap0 (bs : List Blk) : Heap:=bs.zipIdx.map fun (b,i)=>(PB + i,b)

section
variable {nt : Nat} {σ : Sl} {hp : Heap} {ct d : Nat} {G : Nat → List IV} {R : Run} {Q : Sl → Heap → Nat → Prop} {l : List Ins}

end
noncomputable def nilc {α β : Type} (x : List α) (A B : Option β) : Option β:=open Classical in if x = [] then (if A = B then A else none) else B
theorem nilc_t {α β : Type} {x : List α} {A B : Option β} {r : β} (h : nilc x A B = some r) (e : x = []) : A = some r:=by
 unfold nilc at h;rw [if_pos e] at h;split at h
 ·exact h
 ·simp at h
theorem nilc_f {α β : Type} {x : List α} {A B : Option β} {r : β} (h : nilc x A B = some r) : B = some r:=by
 unfold nilc at h;split at h
 ·split at h
  ·rename_i e; rw [← e]; exact h
  ·simp at h
 ·exact h
theorem nilc_eq {α β : Type} {x : List α} {A B : Option β} (h : x = [] → A = B) : nilc x A B = B:=by
 unfold nilc;split
 ·rename_i e; rw [if_pos (h e),h e]
 ·rfl
section
variable {nt : Nat} {σ : Sl} {hp : Heap} {ct d : Nat} {G : Nat → List IV} {R : Run} {Q : Sl → Heap → Nat → Prop} {l : List Ins}
theorem k_eqNil {α : Type} {E : Rep α} {P : List Nat} {f neg : Bool} {x : Opd} {a : AC} {xs : List α} (hx : evσ nt σ x = .v (.c a)) (hs : sa P E f hp a xs)
  (nx : ∀ b : Bool,(b = true → xs = []) → wpL G R nt l Q (upd σ d (V (.bool (if neg then !b else b)))) hp ct) : wpL G R nt (.op (some d) none (.eqN neg 1 x (.c .nilS)) :: l) Q σ hp ct:=by
 have key : ∃ b,isNil hp 1 a = some b ∧ (b = true → xs = []):=by
  rcases hs with ⟨v,rfl,⟨rfl,h⟩ | ⟨rfl,h⟩ | ⟨t,c,rfl,_⟩⟩ | ⟨rfl,h⟩ | ⟨rfl,h⟩ | ⟨b,g,off,cs,c,hb,rfl,h4,_⟩
  ·exact ⟨true,rfl,fun _=>h⟩
  ·exact ⟨false,rfl,by simp⟩
  ·exact ⟨false,rfl,by simp⟩
  ·exact ⟨true,rfl,fun _=>h⟩
  ·exact ⟨false,rfl,by simp⟩
  ·exact ⟨false,by simp [isNil,(Heap.row_eq h4).2],by simp⟩
 obtain ⟨b,h1,h2⟩:=key;refine k_op (v:=V (.bool (if neg then !b else b))) (hp':=hp) (ct':=ct) ?_ (nx b h2);have e2 : evσ nt σ (.c .nilS) = V .nilS:=rfl;simp only [opK,step,ev_mk,hx,e2,V,mkS_hp,mkS_ct,h1,show isNil hp 1 (I .nilS) = some true from rfl,Bool.or_true,if_true,okv,Option.map_some];cases b <;> cases neg <;> rfl
theorem k_appXC {α : Type} {E : Rep α} {P P' : List Nat} {f f2 : Bool} {sz bytes : Nat} {x y : Opd} {a b : AC} {xs ys zs : List α} (hx : evσ nt σ x = .v (.c a)) (hs : so P E f hp a xs) (hn : nn a) (hy : evσ nt σ y = .v (.c b)) (ht : sa P' E f2 hp b ys) (hcv : ∀ c,rows E f2 c ys → rows E f c ys) (e : app bytes xs ys = some zs) (hz : E.sz = sz)
  (nx : ∀ a' hp' ct',so P E f hp' a' zs → nn a' → Fr P hp hp' → wpL G R nt l Q (upd σ d (.v (.c a'))) hp' ct') : wpL G R nt (.op (some d) none (.app sz bytes false x y) :: l) Q σ hp ct:=by
 subst hz;unfold app at e;split at e
 ·rename_i hb
  have e:=Option.some.inj e;subst e;have hstr : isStrC b = false:=by
   rcases ht with ⟨v,rfl,⟨rfl,rfl⟩ | ⟨rfl,rfl⟩ | ⟨t,c,rfl,h4,h5⟩⟩ | ⟨rfl,rfl⟩ | ⟨rfl,rfl⟩ | ⟨b,g,off,cs,c,hb,rfl,h4⟩ <;> rfl
  obtain ⟨c,hc0,hcs⟩:=ht.cells;have hc:=hcv c hc0;have hcl:=rows_len hc;obtain ⟨b',g,off,cs,c',hb',rfl,h4,h5,h6,h7⟩:=hs.nnp hn;have hcl':=rows_len h5;have hrow : (cs.map I).take (off + xs.length * E.sz) ++ c.map I = (cs.take (off + xs.length * E.sz) ++ c).map I:=by rw [List.map_append,List.map_take]
  refine k_op (v:=.v (.c (.r (.sl b' ct off E.sz (xs.length + ys.length))))) (hp':=hp.set b' (.cells ct ((cs.map I).take (off + xs.length * E.sz) ++ c.map I))) (ct':=ct + 1) ?_ (nx _ _ _ (.inr (.inr ⟨b',ct,off,cs.take (off + xs.length * E.sz) ++ c,c' ++ c,hb',by simp,by rw [← hrow]; simp [Heap.row,Heap.get_set],rows_append hc h5,?_,?_⟩)) nn_sl (fun q hq=>by rw [Heap.get_set,if_neg]; rintro rfl; exact hq hb'))
  ·rw [x_app,hx,hy]; simp only [hstr,if_true,hcs,h4,List.length_map]
   rw [if_pos (by simpa using ⟨h6,hb⟩)]
  ·simp [hcl,Nat.add_mul]; omega
  ·have e1 : (cs.take (off + xs.length * E.sz)).drop off = c':=by rw [← h7,List.drop_take]; congr 1; omega
   have hoff : off ≤ (cs.take (off + xs.length * E.sz)).length:=by simp; omega
   rw [List.drop_append_of_le_length hoff,e1,List.take_of_length_le];simp [hcl,hcl',Nat.add_mul]
 ·simp at e
theorem eo.ep {α : Type} {P : List Nat} {E : Rep α} {f : Bool} {a p : AC} {xs : List α} {n : Int} {sz : Nat} {y : α} (h : eo P E f hp a xs p (n.toNat * sz)) (e : idx xs n = some y) (hz : E.sz = sz) : ∃ c,ep P G hp p (c.map I) ∧ E.rp f c y:=by
 subst hz;obtain ⟨b,g,off,cs,c,hb,rfl,rfl,h4,h5,h6,h7⟩:=h;obtain ⟨_,_,h3⟩:=idx_is e;obtain ⟨rest,hr⟩:=drop_at h5 h6 h7 h3;refine ⟨(c.drop (n.toNat * E.sz)).take E.sz,⟨⟨rest,?_⟩,.inl ⟨b,g,_,hb,rfl⟩⟩,rows_get h5 h3⟩;simp only [lookAt,h4,hr]
theorem eo.upd {α : Type} {P : List Nat} {E : Rep α} {f : Bool} {hp' : Heap} {a p : AC} {xs ys : List α} {n : Nat} (h : eo P E f hp a xs p n) (k : so P E f hp' a ys) : eo P E f hp' a ys p n:=by
 obtain ⟨b,g,off,cs,c,hb,rfl,rfl,_⟩:=h;obtain ⟨b2,g2,off2,cs2,c2,hb2,e2,k4,k5,k6,k7⟩:=k.nnp nn_sl;injection e2 with e2;injection e2 with e3 e4 e5 _ e6;subst e3; subst e4; subst e5;exact ⟨b,g,off,cs2,c2,hb,by rw [e6],rfl,k4,k5,k6,k7⟩
theorem idx_set {α : Type} {xs : List α} {n : Int} {y u : α} (e : idx xs n = some y) : idx (xs.set n.toNat u) n = some u:=by
 obtain ⟨h1,h2,_⟩:=idx_is e;unfold idx;rw [if_pos h1,List.getElem?_set_self h2]
end
section
variable {κ β : Type} [D : DecidableEq κ] {K : SK κ} {iv : β → IV} {nt : Nat} {σ : Sl} {hp : Heap} {ct d : Nat} {G : Nat → List IV} {R : Run} {Q : Sl → Heap → Nat → Prop} {l : List Ins} {m : List (κ × β)}
omit D in
omit D in
end
section
variable {κ β : Type} [D : DecidableEq κ] {K : SK κ} {iv : β → IV} {nt : Nat} {σ : Sl} {hp : Heap} {ct d : Nat} {G : Nat → List IV} {R : Run} {Q : Sl → Heap → Nat → Prop} {l : List Ins} {P : List Nat} {a : AC} {m : List (κ × β)} {x ko : Opd}
end
section
variable {nt : Nat} {σ : Sl} {hp : Heap} {ct d : Nat} {G : Nat → List IV} {R : Run} {Q : Sl → Heap → Nat → Prop} {l : List Ins}

theorem ArgsP.app {hp : Heap} {ids : List Nat} {l l' : List Opd} {as as' bs bs' : List A1} (h : ArgsP nt σ hp ids l as as') (k : ArgsP nt σ hp ids l' bs bs') : ArgsP nt σ hp ids (l ++ l') (as ++ bs) (as' ++ bs'):=by
 induction h with
 | nil=>exact k
 | cons h t _ ih=>exact .cons h t ih
theorem ArgsP.len {hp : Heap} {ids : List Nat} {l : List Opd} {as as' : List A1} (h : ArgsP nt σ hp ids l as as') : as.length = l.length:=by
 induction h with
 | nil=>rfl
 | cons _ _ _ ih=>simp [ih]




end
end Go.Abs

namespace Go.Abs
open Go
set_option maxRecDepth 100000
set_option maxHeartbeats 1000000
section
variable {nt : Nat} {σ : Sl} {hp : Heap} {ct d : Nat} {G : Nat → List IV} {R : Run} {Q : Sl → Heap → Nat → Prop} {l : List Ins}
end
def sz {α : Type} (c : Nat) (E : Rep α) (hp : Heap) (a : AC) (xs : List α) : Prop:=so [c] E true hp a xs ∧ (nn a ∨ hp.get c = none)
def fb {α : Type} (q : Nat) (E : Rep α) (xs : List α) (h : Heap) (b : AC) : Prop:=so [q] E true h b xs ∧ nn b
def OW (ts c0 : List IV) (F1 F2 : Heap → AC → Prop) : List A1 → Heap → Prop:=fun rs h=>rs = ts.map (fun v=>.c (I v)) ∧ ∃ b1 b2,h.get PB = some (.cells 0 (c0.map I ++ [b1,b2])) ∧ F1 h b1 ∧ F2 h b2

section
variable {nt : Nat} {σ : Sl} {hp : Heap} {ct d : Nat} {G : Nat → List IV} {R : Run} {Q : Sl → Heap → Nat → Prop} {l : List Ins}
theorem so.two {α : Type} {c : Nat} {E : Rep α} {f : Bool} {hp : Heap} {a : AC} {xs : List α} (h : so [c] E f hp a xs) : (∃ v,(v = IV.nilS ∨ v = IV.emp) ∧ a = I v ∧ xs = []) ∨
  ∃ (g off : Nat) (cs c' : List IV),a = .r (.sl c g off E.sz xs.length) ∧ hp.get c = some (.cells g (cs.map I)) ∧ rows E f c' xs ∧ off + xs.length * E.sz ≤ cs.length ∧ (cs.drop off).take (xs.length * E.sz) = c':=by
 rcases h with ⟨rfl,e⟩ | ⟨rfl,e⟩ | ⟨b,g,off,cs,c',hb,rfl,h4,h5,h6,h7⟩
 ·exact .inl ⟨_,.inl rfl,rfl,e⟩
 ·exact .inl ⟨_,.inr rfl,rfl,e⟩
 ·obtain rfl : b = c:=by simpa using hb
  exact .inr ⟨g,off,cs,c',rfl,(Heap.row_eq h4).1,h5,h6,h7⟩

end
theorem sz.fr {α : Type} {c : Nat} {PL : List Nat} {E : Rep α} {hp hp' : Heap} {a : AC} {xs : List α} (h : sz c E hp a xs) (r : Fr PL hp hp') (e : PL.contains c = false) : sz c E hp' a xs:=by
 have hc : c ∉ PL:=by simpa using e
 exact ⟨h.1.fr r (by simpa using hc),h.2.imp_right fun q=>(r c hc).trans q⟩
theorem so.sub {α : Type} {P P' : List Nat} {E : Rep α} {f : Bool} {hp : Heap} {a : AC} {xs : List α} (h : so P E f hp a xs) (e : P.all (fun p=>P'.contains p) = true) : so P' E f hp a xs:=by
 rcases h with h | h | ⟨b,g,off,cs,c,hb,h⟩
 ·exact .inl h
 ·exact .inr (.inl h)
 ·exact .inr (.inr ⟨b,g,off,cs,c,by simpa using List.all_eq_true.1 e b hb,h⟩)
end Go.Abs

namespace Go.Abs
open Go
set_option maxRecDepth 100000
theorem so.rd {α : Type} {P : List Nat} {E : Rep α} {f : Bool} {hp : Heap} {a : AC} {xs : List α} (h : so P E f hp a xs) {q : Nat → Bool} (hq : P.all q = true) (n : Nat) : ∃ v,Go.Abs.rd q hp 0 (n + 1) a = some v ∧ sv E f v xs:=by
 rcases h with ⟨rfl,rfl⟩ | ⟨rfl,rfl⟩ | ⟨b,g,off,cs,c,hb,rfl,h2,h3,h4,h5⟩
 ·exact ⟨.nilS,by rw [rd_inl],.inl ⟨rfl,rfl⟩⟩
 ·exact ⟨.emp,by rw [rd_inl],.inr (.inl ⟨rfl,rfl⟩)⟩
 ·exact ⟨.lit 0 c xs.length,rd_rows (List.all_eq_true.1 hq b hb) h2 h4 h5,.inr (.inr ⟨0,c,rfl,h3,fun _=>rfl⟩)⟩

section
variable {nt : Nat} {σ : Sl} {hp : Heap} {ct d : Nat} {G : Nat → List IV} {R : Run} {Q : Sl → Heap → Nat → Prop} {l : List Ins}

end
theorem lies.wide {a : AC} {P Q : List Nat} (h : lies a P) (hq : P.all (Q.contains ·) = true) : lies a Q:=by
 have hm : ∀ b,b ∈ P → b ∈ Q:=fun b hb=>by have:=List.all_eq_true.1 hq b hb; simpa using this
 cases a with
 | clo=>exact h
 | r a=>cases a <;> first | exact trivial | exact hm _ h
section
variable {nt : Nat} {σ : Sl} {hp : Heap} {ct : Nat} {G : Nat → List IV} {R : Run} {L : List (Ins × Tg)}
end
def soF {α : Type} (b : Nat) (E : Rep α) (h : Heap) (a : AC) (xs : List α) : Prop:=∃ g cs,a = .r (.sl b g 0 E.sz xs.length) ∧ h.get b = some (.cells g (cs.map I)) ∧ rows E true cs xs
def soN {α : Type} (b : Nat) (E : Rep α) (h : Heap) (a : AC) (xs : List α) : Prop:=(a = I .nilS ∧ xs = []) ∨ soF b E h a xs

section
variable {nt : Nat} {σ : Sl} {hp : Heap} {ct d : Nat} {G : Nat → List IV} {R : Run} {Q : Sl → Heap → Nat → Prop} {l : List Ins}
end
end Go.Abs

namespace Go.Abs
open Go
set_option maxRecDepth 100000
set_option maxHeartbeats 1000000
def clrF {α : Type} (l : List α) (m : Int) (z : α) : Option (List α):=if 0 ≤ m ∧ m ≤ l.length then some (l.take m.toNat ++ List.replicate (l.length - m.toNat) z) else none

section
variable {nt : Nat} {σ : Sl} {hp : Heap} {ct d : Nat} {G : Nat → List IV} {R : Run} {Q : Sl → Heap → Nat → Prop} {l : List Ins}


end
end Go.Abs

namespace Go.Abs
open Go
set_option maxRecDepth 100000
section
variable {nt : Nat} {σ : Sl} {hp : Heap} {ct d : Nat} {G : Nat → List IV} {R : Run} {Q : Sl → Heap → Nat → Prop} {l : List Ins}

end
abbrev It:=List UInt8 × Nat
def itMore (x : It) : Bool:=decide (x.2 < x.1.length)
def itNext (x : It) : It:=if x.2 < x.1.length then (x.1,x.2 + (utf8Next x.1 x.2).2) else x
def itPos (x : It) : Int:=x.2
def itRune (x : It) : Int:=(utf8Next x.1 x.2).1
def itV (x : It) : AV:=if x.2 < x.1.length then .tup [.c (I (.bool true)),.c (I (.int .i64 (itPos x))),.c (I (.int .i32 (itRune x)))] else .tup [.c (I (.bool false))]
def it (P : List Nat) (hp : Heap) (a : AC) (x : It) : Prop:=∃ b g,b ∈ P ∧ a = .r (.ptr b g 0) ∧ hp.get b = some (.iter g x.1 x.2)
theorem it.fr {P Q : List Nat} {hp hp' : Heap} {a : AC} {x : It} (h : it P hp a x) (k : Fr Q hp hp') (hd : P.all (fun b=>!Q.contains b) = true) : it P hp' a x:=by
 obtain ⟨b,g,h1,h2,h3⟩:=h
 have:=List.all_eq_true.1 hd b h1
 exact ⟨b,g,h1,h2,(k b (by simpa using this)).trans h3⟩
theorem it.wide {P Q : List Nat} {hp : Heap} {a : AC} {x : It} (h : it P hp a x) (hd : P.all (fun b=>Q.contains b) = true) : it Q hp a x:=by
 obtain ⟨b,g,h1,h2,h3⟩:=h
 have:=List.all_eq_true.1 hd b h1
 exact ⟨b,g,by simpa using this,h2,h3⟩

section
variable {nt : Nat} {σ : Sl} {hp : Heap} {ct d : Nat} {G : Nat → List IV} {R : Run} {Q : Sl → Heap → Nat → Prop} {l : List Ins} {x : Opd}
end

structure R1 {α : Type} (E : Rep α) (T : XT α) (iv : α → IV) : Prop where
  sz : E.sz = 1
  cell : ∀ x,T.cell x = I (iv x)
  of : ∀ x,T.of (I (iv x)) = some x
  rp : ∀ f c x,E.rp f c x ↔ c = [iv x]
theorem R1.rows {α : Type} {E : Rep α} {T : XT α} {iv : α → IV} (h : R1 E T iv) {f : Bool} : ∀ {xs : List α} {c : List IV},rows E f c xs ↔ c = xs.map iv
 | [],c=>by simp [Abs.rows]
 | x :: xs,c=>by
  constructor
  ·rintro ⟨a,b,rfl,h1,h2⟩
   rw [h.rp] at h1
   rw [R1.rows h] at h2
   rw [h1,h2]; rfl
  ·rintro rfl
   exact ⟨[iv x],_,rfl,(h.rp _ _ _).2 rfl,(R1.rows h).2 rfl⟩



section
variable {nt : Nat} {σ : Sl} {hp : Heap} {ct d : Nat} {G : Nat → List IV} {R : Run} {Q : Sl → Heap → Nat → Prop} {l : List Ins}
end
end Go.Abs

namespace Go.Abs
open Go
set_option maxRecDepth 100000
set_option maxHeartbeats 1000000
def OB {α : Type} (p : Nat) (E : Rep α) (xs : List α) : List A1 → Heap → Prop:=fun rs h=>rs = [] ∧ ∃ b,h.get PB = some (.cells 0 [b]) ∧ so [p] E true h b xs
def OBb {α : Type} (E : Rep α) (xs : List α) : List A1 → Heap → Prop:=fun rs h=>rs = [] ∧ ∃ b,h.get PB = some (.cells 0 [b]) ∧ so [PB + 1] E true h b xs ∧ nn b

section
variable {nt : Nat} {σ : Sl} {hp : Heap} {ct d : Nat} {G : Nat → List IV} {R : Run} {Q : Sl → Heap → Nat → Prop} {l : List Ins}
def capA (ks : List IV) (b g : Nat) : List A1:=ks.map (fun v=>A1.c (I v)) ++ [.c (.r (.ptr b g 0))]

end
def mkV {α : Type} (xs : List α) (k : Int) : Option Int:=if 0 ≤ k ∧ k < xs.length then some k else none
def vwD {α : Type} (xs : List α) (k : Int) : List α:=xs.drop k.toNat
def vw {α : Type} (E : Rep α) (a a' : AC) (k : Int) : Prop:=∃ b g off n,a = .r (.sl b g off E.sz n) ∧ a' = .r (.sl b g (off + k.toNat * E.sz) E.sz (n - k.toNat)) ∧ 0 ≤ k ∧ k.toNat < n
def clrV {α : Type} (l : List α) (m : Int) (z : α) : Option (List α):=if m < l.length then clrF l m z else none

theorem so.vw {α : Type} {E : Rep α} {P : List Nat} {f : Bool} {hp : Heap} {a a' : AC} {xs : List α} {k : Int} (h : so P E f hp a xs) (v : vw E a a' k) : so P E f hp a' (vwD xs k):=by
 obtain ⟨b,g,off,n,rfl,rfl,h0,h1⟩:=v;rcases h with ⟨h,_⟩ | ⟨h,_⟩ | ⟨b',g',off',cs,c,hb,h,h4,h5,h6,h7⟩
 ·simp [I] at h
 ·simp [I] at h
 ·injection h with h
  injection h with e1 e2 e3 e4 e5;subst e1 e2 e3 e5;have hmul : k.toNat * E.sz + (xs.length - k.toNat) * E.sz = xs.length * E.sz:=by rw [← Nat.add_mul]; congr 1; omega
  have hl : (vwD xs k).length = xs.length - k.toNat:=by simp [vwD]
  refine .inr (.inr ⟨b,g,off + k.toNat * E.sz,cs,c.drop (k.toNat * E.sz),hb,by rw [hl],h4,(rows_split _ h5).2,?_,?_⟩)
  ·rw [hl]; omega
  ·rw [hl,← h7,List.drop_take,List.drop_drop]
   congr 1; omega

theorem vw.nn {α : Type} {E : Rep α} {a a' : AC} {k : Int} (v : vw E a a' k) : nn a:=by
 obtain ⟨b,g,off,n,rfl,_⟩:=v;exact nn_sl

section
variable {nt : Nat} {σ : Sl} {hp : Heap} {ct d : Nat} {G : Nat → List IV} {R : Run} {Q : Sl → Heap → Nat → Prop} {l : List Ins}

end
end Go.Abs

namespace Go.Abs
theorem loopO_ind {S E : Type} {step : S → Option (S ⊕ E)} (P : S → Prop) (Q : E → Prop) (m : S → Nat)
  (h : ∀ s,P s → (∃ e,step s = some (.inr e) ∧ Q e) ∨ ∃ s',step s = some (.inl s') ∧ P s' ∧ m s' < m s) : ∀ s,P s → ∃ e,loopO step s = some e ∧ Q e:=by
 have key : ∀ n s,m s = n → P s → ∃ e,loopO step s = some e ∧ Q e:=by
  intro n;induction n using Nat.strongRecOn with
  | _ n ih =>
   intro s hs hP;rcases h s hP with ⟨e,h1,h2⟩ | ⟨s',h1,h2,h3⟩
   ·exact ⟨e,by rw [loopO_eq,h1],h2⟩
   ·obtain ⟨e,h4,h5⟩:=ih (m s') (by omega) s' rfl h2
    exact ⟨e,by rw [loopO_eq,h1]; exact h4,h5⟩
 exact fun s hP=>key _ s rfl hP

theorem loop_for {S E : Type} {step : S → Option (S ⊕ E)} {N : Nat} (st : Nat → S) (e : E) (h1 : ∀ k,k < N → step (st k) = some (.inl (st (k + 1)))) (h2 : step (st N) = some (.inr e)) : loopO step (st 0) = some e:=by
  have key : ∀ d k,k + d = N → loopO step (st k) = some e:=by
    intro d;induction d with
    | zero => intro k hk; obtain rfl : k = N := by omega
              rw [loopO_eq,h2]
    | succ d ih=>intro k hk; rw [loopO_eq,h1 k (by omega)]; exact ih (k + 1) (by omega)
  exact key N 0 (by omega)

theorem idx_nat {α : Type} (l : List α) (k : Nat) : idx l (k : Int) = l[k]?:=by simp [idx]
theorem idx_at {α : Type} {l : List α} {k : Nat} (h : k < l.length) : idx l (k : Int) = some l[k]:=by simp [idx,h]
theorem idx_of {α : Type} {l : List α} {n : Int} (h0 : 0 ≤ n) (h : n < l.length) : ∃ x,idx l n = some x ∧ x ∈ l:=by
 have : n.toNat < l.length:=by omega
 exact ⟨l[n.toNat],by simp [idx,h0,this],List.getElem_mem _⟩
theorem w64 {n : Int} (h1 : -9223372036854775808 ≤ n) (h2 : n ≤ 9223372036854775807) : IntKind.wrap .i64 n = n:=wrap_i64 h1 h2
theorem app_of {α : Type} {b : Nat} {l m : List α} (h : (l.length + m.length) * b ≤ 17592186044416) (h2 : l.length + m.length ≤ 17592186044416) : app b l m = some (l ++ m):=by simp [app,h,h2]
theorem mkN_of {α : Type} {b : Nat} {n : Int} {x : α} (h0 : 0 ≤ n) (h : b * n.toNat ≤ 70368744177664) (h2 : n ≤ 70368744177664) : mkN b n x = some (List.replicate n.toNat x):=by simp [mkN,h0,h,h2]
theorem emod_tmod (x n : Int) (hn : 1 ≤ n) : x % n = if x.tmod n < 0 then x.tmod n + n else x.tmod n:=by
 have hlt : x.tmod n < n:=Int.tmod_lt_of_pos _ (by omega);have hgt : -n < x.tmod n:=by
  have:=Int.tmod_lt_of_pos (-x) (b:=n) (by omega)
  rw [Int.neg_tmod] at this; omega
 have he : x = n * (x.tdiv n) + x.tmod n:=(Int.mul_tdiv_add_tmod x n).symm;have h1 : x % n = (x.tmod n) % n:=by
  conv=>lhs; rw [he]
  exact Int.mul_add_emod_self_left ..
 rw [h1];split
 ·rw [← Int.add_emod_right,Int.emod_eq_of_lt (by omega) (by omega)]
 ·exact Int.emod_eq_of_lt (by omega) hlt

def mapk {α : Type} (f : α → α) (l : List α) (k : Nat) : List α:=(l.take k).map f ++ l.drop k
section
variable {α β : Type}
def newk (f : α → β) (z : β) (l : List α) (k : Nat) : List β:=(l.take k).map f ++ List.replicate (l.length - k) z
end
def foldE {α S E : Type} (f : Nat → α → S → Option (S ⊕ E)) (fin : S → E) : Nat → List α → S → Option E
  | _,[],s=>some (fin s)
  | i,a :: l,s=>match f i a s with
    | none=>none
    | some (.inl s')=>foldE f fin (i + 1) l s'
    | some (.inr e)=>some e

section
variable {α σ S E : Type}
end

def idxI {α : Type} (p : α → Bool) (l : List α) : Int:=match l.findIdx? p with | some i=>(i : Int) | none=>-1
section
variable {α : Type}

end
end Go.Abs

namespace Go.Abs
open Go.RowKit
structure MIt where
  b : Nat
  g : Nat
  since : Nat
  seen : List Nat
  stepped : Nat
abbrev Its:=List (Nat × MIt)
def itAt : Its → Nat → Option MIt
  | [],_=>none
  | (c,t) :: l,k=>if c = k then some t else itAt l k
def itSet : Its → Nat → MIt → Its
  | [],_,_=>[]
  | (c,t) :: l,k,u=>if c = k then (c,u) :: l else (c,t) :: itSet l k u
theorem itSet_at : ∀ {l : Its} {k j : Nat} {t u : MIt},itAt l k = some t → itAt (itSet l k u) j = if k = j then some u else itAt l j
 | [],_,_,_,_,h=>by simp [itAt] at h
 | (c,t0) :: l,k,j,t,u,h=>by
  simp only [itAt] at h
  simp only [itSet]
  by_cases e : c = k
  ·subst e
   simp only [if_true,itAt]
   by_cases e2 : c = j
   ·simp [e2]
   ·simp [e2]
  ·rw [if_neg e] at h
   rw [if_neg e]
   simp only [itAt,itSet_at h]
   by_cases e2 : c = j
   ·subst e2
    have : ¬ k = c:=fun q=>e q.symm
    simp [this]
   ·simp [e2]

inductive DIns where
  | ins (x : Ins)
  | rng (d : Nat) (x : Opd)
  | nx (d : Nat) (x : Opd)
  | ent (d : Nat) (x : Opd)
  | mv (b c t : Nat)   -- only told: the map of place 'b',which slot 't' holds,is told of place 'c' from here on
def St.mvm (s : St) (b c t : Nat) (es : List Ent) (k : Nat) : St:={ s with tm:=s.tm.set t (.v (.c (.r (.map c s.ct)))),hp:=(s.hp.del b).set c (.map s.ct es k),ct:=s.ct + 1 }
inductive IRD where
  | base (x : IR)
  | reg (l : List DIns)
  | seq (a b : IRD)
  | cond (x : Opd) (a b : IRD)
  | block (id : Nat) (a : IRD)
  | loop (a : IRD)

def isMapT (P : Program) (t : Nat) : Bool:=match P.underlying t with
  | some (.map _ _)=>true
  | _=>false
def okDIns (P : Program) (ops : Array Oper) (i : Nat) : DIns → Bool
  | .ins x=>okIns P ops i x
  | .rng d x=>match ops[i]? with
    | some o=>o.dst == some d && o.guard.isNone && (match o.op with | .range t y=>okOpd y x && isMapT P t | _=>false)
    | none=>false
  | .nx d x=>match ops[i]? with
    | some o=>o.dst == some d && o.guard.isNone && (match o.op with | .next y false=>okOpd y x | _=>false)
    | none=>false
  | .ent d x=>match ops[i]? with
    | some o=>o.dst == some d && o.guard.isNone && (match o.op with | .entry y=>okOpd y x | _=>false)
    | none=>false
  | .mv ..=>true
def DIns.isOp : DIns → Bool
  | .ins x=>x.isOp
  | .mv ..=>false
  | _=>true
def okDL (P : Program) (ops : Array Oper) : List DIns → Nat → Bool
  | [],i=>i == ops.size
  | x :: l,i=>if x.isOp then okDIns P ops i x && okDL P ops l (i + 1) else okDL P ops l i
def okIRD (P : Program) : IRD → Code → Bool
  | .base x,c=>okIR P x c
  | .reg l,.region _ ops draw=>!draw && okDL P ops l 0
  | .seq x y,.seq c d=>okIRD P x c && okIRD P y d
  | .cond x p q,.cond y c d=>okOpd y x && okIRD P p c && okIRD P q d
  | .block i x,.block j c=>i == j && okIRD P x c
  | .loop x,.loop c=>okIRD P x c
  | _,_=>false

section
variable (G : Nat → List IV) (R : Run)
def wpDL : List DIns → St → Its → (St → Its → Prop) → Prop
  | [],s,its,Q=>Q s its
  | .ins x :: l,s,its,Q=>∃ s',insI G R s x = some s' ∧ wpDL l s' its Q
  | .rng d x :: l,s,its,Q=>∃ b g es k,ev s x = .v (.c (.r (.map b g))) ∧ s.hp.mapAt b g = some (es,k) ∧ ∀ c,itAt its c = none → wpDL l (s.put (some d) (V (.gp c 0))) ((c,⟨b,g,k,[],k⟩) :: its) Q
  | .nx d x :: l,s,its,Q=>∃ c t es k,ev s x = V (.gp c 0) ∧ itAt its c = some t ∧ s.hp.mapAt t.b t.g = some (es,k) ∧ (∀ e ∈ es,e.born < t.since) ∧ t.since ≤ t.stepped ∧
      ((∀ e ∈ es,e.born ∈ t.seen) → wpDL l (s.put (some d) (.tup [.c (I (.bool false))])) its Q) ∧
      ∀ e ∈ es,e.born ∉ t.seen → wpDL l (s.put (some d) (.tup [.c (I (.bool true)),e.key,e.val])) (itSet its c ⟨t.b,t.g,t.since,t.seen ++ [e.born],k⟩) Q
  | .ent d x :: l,s,its,Q=>∃ c t es k e sn,ev s x = V (.gp c 0) ∧ itAt its c = some t ∧ s.hp.mapAt t.b t.g = some (es,k) ∧ t.stepped = k ∧ e ∈ es ∧ t.seen = sn ++ [e.born] ∧ (es.map (·.born)).Nodup ∧
      wpDL l (s.put (some d) (.tup [e.key,e.val])) its Q
  | .mv b c t :: l,s,its,Q=>∃ g es k,s.get t = .v (.c (.r (.map b g))) ∧ s.hp.get b = some (.map g es k) ∧ b ≠ c ∧ b < PB ∧ wpDL l (s.mvm b c t es k) its Q
def inRound (L : St → Its → Prop) (Q : Ex → St → Its → Prop) : Ex → St → Its → Prop
  | .normal,s,its=>L s its
  | e,s,its=>Q e s its
def loopW (f : St → Its → (Ex → St → Its → Prop) → Prop) (Q : Ex → St → Its → Prop) (s : St) (its : Its) : Prop :=
  ∀ L : St → Its → Prop,(∀ s its,f s its (inRound L Q) → L s its) → L s its
def inBlkD (id : Nat) (Q : Ex → St → Its → Prop) : Ex → St → Its → Prop
  | .exit i,s,its=>Q (if i = id then .normal else .exit i) s its
  | e,s,its=>Q e s its
def wpD : IRD → St → Its → (Ex → St → Its → Prop) → Prop
  | .base x,s,its,Q=>∃ n ex s',exec G R n x s = some (ex,s') ∧ Q ex s' its
  | .reg l,s,its,Q=>wpDL G R l s its (Q .normal)
  | .seq a b,s,its,Q=>wpD a s its (inRound (fun s its=>wpD b s its Q) Q)
  | .cond x a b,s,its,Q=>∃ p,(ev s x).bool = some p ∧ (p = true → wpD a s its Q) ∧ (p = false → wpD b s its Q)
  | .block id a,s,its,Q=>wpD a s its (inBlkD id Q)
  | .loop a,s,its,Q=>loopW (fun s its Q=>wpD a s its Q) Q s its

variable {G R}
theorem inRound_mono {L L' : St → Its → Prop} {Q Q' : Ex → St → Its → Prop} (hL : ∀ s its,L s its → L' s its) (hQ : ∀ e s its,Q e s its → Q' e s its) : ∀ e s its,inRound L Q e s its → inRound L' Q' e s its:=fun e s its h=>by
 cases e
 ·exact hL s its h
 all_goals exact hQ _ s its h
theorem inBlkD_mono {id : Nat} {Q Q' : Ex → St → Its → Prop} (hQ : ∀ e s its,Q e s its → Q' e s its) : ∀ e s its,inBlkD id Q e s its → inBlkD id Q' e s its:=fun e s its h=>by
 cases e
 all_goals exact hQ _ s its h
theorem wpDL_mono {Q Q' : St → Its → Prop} (hQ : ∀ s its,Q s its → Q' s its) : ∀ (l : List DIns) (s : St) (its : Its),wpDL G R l s its Q → wpDL G R l s its Q'
 | [],s,its,h=>hQ s its h
 | .ins x :: l,s,its,h=>by
  obtain ⟨s',h1,h2⟩:=h
  exact ⟨s',h1,wpDL_mono hQ l s' its h2⟩
 | .rng d x :: l,s,its,h=>by
  obtain ⟨b,g,es,k,h1,h2,h3⟩:=h
  exact ⟨b,g,es,k,h1,h2,fun c hc=>wpDL_mono hQ l _ _ (h3 c hc)⟩
 | .nx d x :: l,s,its,h=>by
  obtain ⟨c,t,es,k,h1,h2,h3,h4,h5,h6,h7⟩:=h
  exact ⟨c,t,es,k,h1,h2,h3,h4,h5,fun q=>wpDL_mono hQ l _ _ (h6 q),fun e he q=>wpDL_mono hQ l _ _ (h7 e he q)⟩
 | .ent d x :: l,s,its,h=>by
  obtain ⟨c,t,es,k,e,sn,h1,h2,h3,h4,h5,h6,h7,h8⟩:=h
  exact ⟨c,t,es,k,e,sn,h1,h2,h3,h4,h5,h6,h7,wpDL_mono hQ l _ _ h8⟩
 | .mv b c t :: l,s,its,h=>by
  obtain ⟨g,es,k,h1,h2,h3,h4,h5⟩:=h
  exact ⟨g,es,k,h1,h2,h3,h4,wpDL_mono hQ l _ _ h5⟩
theorem loopW_mono {f : St → Its → (Ex → St → Its → Prop) → Prop} (hf : ∀ s its Q Q',(∀ e s its,Q e s its → Q' e s its) → f s its Q → f s its Q') {Q Q' : Ex → St → Its → Prop} (hQ : ∀ e s its,Q e s its → Q' e s its) {s : St} {its : Its} (h : loopW f Q s its) : loopW f Q' s its :=
 fun L hL=>h L fun s its q=>hL s its (hf s its _ _ (inRound_mono (fun _ _ r=>r) hQ) q)
theorem wpD_mono : ∀ (x : IRD) (s : St) (its : Its) (Q Q' : Ex → St → Its → Prop),(∀ e s its,Q e s its → Q' e s its) → wpD G R x s its Q → wpD G R x s its Q'
 | .base x,s,its,Q,Q',hQ,h=>by
  obtain ⟨n,ex,s',h1,h2⟩:=h
  exact ⟨n,ex,s',h1,hQ _ _ _ h2⟩
 | .reg l,s,its,Q,Q',hQ,h=>wpDL_mono (hQ .normal) l s its h
 | .seq a b,s,its,Q,Q',hQ,h=>wpD_mono a s its _ _ (inRound_mono (fun s its q=>wpD_mono b s its _ _ hQ q) hQ) h
 | .cond x a b,s,its,Q,Q',hQ,h=>by
  obtain ⟨p,h1,h2,h3⟩:=h
  exact ⟨p,h1,fun q=>wpD_mono a s its _ _ hQ (h2 q),fun q=>wpD_mono b s its _ _ hQ (h3 q)⟩
 | .block id a,s,its,Q,Q',hQ,h=>wpD_mono a s its _ _ (inBlkD_mono hQ) h
 | .loop a,s,its,Q,Q',hQ,h=>loopW_mono (fun s its Q Q' q r=>wpD_mono a s its Q Q' q r) hQ h
theorem loopW_one {f : St → Its → (Ex → St → Its → Prop) → Prop} (hf : ∀ s its Q Q',(∀ e s its,Q e s its → Q' e s its) → f s its Q → f s its Q') {Q : Ex → St → Its → Prop} {s : St} {its : Its} (h : f s its (inRound (loopW f Q) Q)) : loopW f Q s its :=
 fun L hL=>hL s its (hf s its _ _ (inRound_mono (fun _ _ r=>r L hL) fun _ _ _ r=>r) h)
theorem loopW_open {f : St → Its → (Ex → St → Its → Prop) → Prop} (hf : ∀ s its Q Q',(∀ e s its,Q e s its → Q' e s its) → f s its Q → f s its Q') {Q : Ex → St → Its → Prop} {s : St} {its : Its} (h : loopW f Q s its) : f s its (inRound (loopW f Q) Q) :=
 h (fun s its=>f s its (inRound (loopW f Q) Q)) fun s its q=>hf s its _ _ (inRound_mono (fun _ _ r=>loopW_one hf r) fun _ _ _ r=>r) q
theorem it_free : ∀ its : Its,∃ n,∀ c,n ≤ c → itAt its c = none
 | []=>⟨0,fun _ _=>rfl⟩
 | (c,t) :: l=>by
  obtain ⟨n,h⟩:=it_free l
  refine ⟨max n (c + 1),fun k hk=>?_⟩
  simp only [itAt]
  rw [if_neg (by omega),h k (by omega)]
theorem gp_inj {c c' : Nat} (h : V (.gp c 0) = V (.gp c' 0)) : c = c':=by
 have : (IV.gp c 0) = .gp c' 0:=by simpa [V] using h
 cases this; rfl
theorem wpDL_both {Q Q' : St → Its → Prop} : ∀ (l : List DIns) (s : St) (its : Its),wpDL G R l s its Q → wpDL G R l s its Q' → wpDL G R l s its fun s its=>Q s its ∧ Q' s its
 | [],s,its,h,h'=>⟨h,h'⟩
 | .ins x :: l,s,its,h,h'=>by
  obtain ⟨s',h1,h2⟩:=h
  obtain ⟨s2,h3,h4⟩:=h'
  rw [h1] at h3
  obtain rfl:=Option.some.inj h3
  exact ⟨s',h1,wpDL_both l s' its h2 h4⟩
 | .rng d x :: l,s,its,h,h'=>by
  obtain ⟨b,g,es,k,h1,h2,h3⟩:=h
  obtain ⟨b2,g2,es2,k2,i1,i2,i3⟩:=h'
  rw [h1] at i1
  simp only [AV.v.injEq,A1.c.injEq,AC.r.injEq,AR.map.injEq] at i1
  obtain ⟨rfl,rfl⟩:=i1
  rw [h2] at i2
  simp only [Option.some.injEq,Prod.mk.injEq] at i2
  obtain ⟨rfl,rfl⟩:=i2
  exact ⟨b,g,es,k,h1,h2,fun c hc=>wpDL_both l _ _ (h3 c hc) (i3 c hc)⟩
 | .nx d x :: l,s,its,h,h'=>by
  obtain ⟨c,t,es,k,h1,h2,h3,h4,h5,h6,h7⟩:=h
  obtain ⟨c2,t2,es2,k2,i1,i2,i3,i4,i5,i6,i7⟩:=h'
  rw [h1] at i1
  obtain rfl:=gp_inj i1
  rw [h2] at i2
  obtain rfl:=Option.some.inj i2
  rw [h3] at i3
  simp only [Option.some.injEq,Prod.mk.injEq] at i3
  obtain ⟨rfl,rfl⟩:=i3
  exact ⟨c,t,es,k,h1,h2,h3,h4,h5,fun q=>wpDL_both l _ _ (h6 q) (i6 q),fun e he q=>wpDL_both l _ _ (h7 e he q) (i7 e he q)⟩
 | .ent d x :: l,s,its,h,h'=>by
  obtain ⟨c,t,es,k,e,sn,h1,h2,h3,h4,h5,h6,h7,h8⟩:=h
  obtain ⟨c2,t2,es2,k2,e2,sn2,i1,i2,i3,i4,i5,i6,i7,i8⟩:=h'
  rw [h1] at i1
  obtain rfl:=gp_inj i1
  rw [h2] at i2
  obtain rfl:=Option.some.inj i2
  rw [h3] at i3
  simp only [Option.some.injEq,Prod.mk.injEq] at i3
  obtain ⟨rfl,rfl⟩:=i3
  have hb : e.born = e2.born:=by
   rw [h6] at i6
   have:=congrArg List.getLast? i6
   simpa using this
  have he : e = e2:=by
   obtain ⟨i,hi,rfl⟩:=List.getElem_of_mem h5
   obtain ⟨j,hj,rfl⟩:=List.getElem_of_mem i5
   have : i = j:=by
    rcases Nat.lt_trichotomy i j with q | q | q
    ·have w:=List.pairwise_iff_getElem.1 h7 i j (by simpa using hi) (by simpa using hj) q
     simp only [List.getElem_map] at w
     exact absurd hb w
    ·exact q
    ·have w:=List.pairwise_iff_getElem.1 h7 j i (by simpa using hj) (by simpa using hi) q
     simp only [List.getElem_map] at w
     exact absurd hb.symm w
   subst this
   rfl
  subst he
  exact ⟨c,t,es,k,e,sn,h1,h2,h3,h4,h5,h6,h7,wpDL_both l _ _ h8 i8⟩
 | .mv b c t :: l,s,its,h,h'=>by
  obtain ⟨g,es,k,h1,h2,h3,h4,h5⟩:=h
  obtain ⟨g2,es2,k2,i1,i2,i3,i4,i5⟩:=h'
  rw [h2] at i2
  simp only [Option.some.injEq,Blk.map.injEq] at i2
  obtain ⟨rfl,rfl,rfl⟩:=i2
  exact ⟨g,es,k,h1,h2,h3,h4,wpDL_both l _ _ h5 i5⟩
theorem wpDL_some {Q : St → Its → Prop} : ∀ (l : List DIns) (s : St) (its : Its),wpDL G R l s its Q → ∃ s its,Q s its
 | [],s,its,h=>⟨s,its,h⟩
 | .ins x :: l,s,its,h=>by
  obtain ⟨s',h1,h2⟩:=h
  exact wpDL_some l s' its h2
 | .rng d x :: l,s,its,h=>by
  obtain ⟨b,g,es,k,h1,h2,h3⟩:=h
  obtain ⟨n,hn⟩:=it_free its
  exact wpDL_some l _ _ (h3 n (hn n (Nat.le_refl _)))
 | .nx d x :: l,s,its,h=>by
  obtain ⟨c,t,es,k,h1,h2,h3,h4,h5,h6,h7⟩:=h
  by_cases q : ∀ e ∈ es,e.born ∈ t.seen
  ·exact wpDL_some l _ _ (h6 q)
  ·simp only [Classical.not_forall] at q
   obtain ⟨e,he,q⟩:=q
   exact wpDL_some l _ _ (h7 e he q)
 | .ent d x :: l,s,its,h=>by
  obtain ⟨c,t,es,k,e,sn,h1,h2,h3,h4,h5,h6,h7,h8⟩:=h
  exact wpDL_some l _ _ h8
 | .mv b c t :: l,s,its,h=>by
  obtain ⟨g,es,k,h1,h2,h3,h4,h5⟩:=h
  exact wpDL_some l _ _ h5
theorem wpD_both : ∀ (x : IRD) (s : St) (its : Its) (Q Q' : Ex → St → Its → Prop),wpD G R x s its Q → wpD G R x s its Q' → wpD G R x s its fun e s its=>Q e s its ∧ Q' e s its
 | .base x,s,its,Q,Q',h,h'=>by
  obtain ⟨n,ex,s',h1,h2⟩:=h
  obtain ⟨n2,ex2,s2,i1,i2⟩:=h'
  have e1:=exec_mono (R:=R) (R':=R) (fun _ _ _ _ h=>h) (Nat.le_max_left n n2) h1
  have e2:=exec_mono (R:=R) (R':=R) (fun _ _ _ _ h=>h) (Nat.le_max_right n n2) i1
  rw [e1] at e2
  simp only [Option.some.injEq,Prod.mk.injEq] at e2
  obtain ⟨rfl,rfl⟩:=e2
  exact ⟨n,ex,s',h1,h2,i2⟩
 | .reg l,s,its,Q,Q',h,h'=>wpDL_both l s its h h'
 | .seq a b,s,its,Q,Q',h,h'=>by
  refine wpD_mono a s its _ _ (fun e s its q=>?_) (wpD_both a s its _ _ h h')
  obtain ⟨q1,q2⟩:=q
  cases e
  ·exact wpD_both b s its _ _ q1 q2
  all_goals exact ⟨q1,q2⟩
 | .cond x a b,s,its,Q,Q',h,h'=>by
  obtain ⟨p,h1,h2,h3⟩:=h
  obtain ⟨p2,i1,i2,i3⟩:=h'
  rw [h1] at i1
  obtain rfl:=Option.some.inj i1
  exact ⟨p,h1,fun q=>wpD_both a s its _ _ (h2 q) (i2 q),fun q=>wpD_both b s its _ _ (h3 q) (i3 q)⟩
 | .block id a,s,its,Q,Q',h,h'=>by
  refine wpD_mono a s its _ _ (fun e s its q=>?_) (wpD_both a s its _ _ h h')
  obtain ⟨q1,q2⟩:=q
  cases e
  all_goals exact ⟨q1,q2⟩
 | .loop a,s,its,Q,Q',h,h'=>by
  have hm : ∀ s its Q Q',(∀ e s its,Q e s its → Q' e s its) → wpD G R a s its Q → wpD G R a s its Q':=fun s its Q Q' q r=>wpD_mono a s its Q Q' q r
  refine (h : loopW _ _ _ _) (fun s its=>loopW (fun s its Q=>wpD G R a s its Q) Q' s its → loopW (fun s its Q=>wpD G R a s its Q) (fun e s its=>Q e s its ∧ Q' e s its) s its) (fun s its q q'=>?_) h'
  refine loopW_one hm ?_
  refine wpD_mono a s its _ _ (fun e s its r=>?_) (wpD_both a s its _ _ q (loopW_open hm q'))
  obtain ⟨r1,r2⟩:=r
  cases e
  ·exact r1 r2
  all_goals exact ⟨r1,r2⟩
theorem wpD_some : ∀ (x : IRD) (s : St) (its : Its) (Q : Ex → St → Its → Prop),wpD G R x s its Q → ∃ e s its,Q e s its
 | .base x,s,its,Q,h=>by
  obtain ⟨n,ex,s',h1,h2⟩:=h
  exact ⟨ex,s',its,h2⟩
 | .reg l,s,its,Q,h=>by
  obtain ⟨s,its,h⟩:=wpDL_some l s its h
  exact ⟨.normal,s,its,h⟩
 | .seq a b,s,its,Q,h=>by
  obtain ⟨e,s,its,h⟩:=wpD_some a s its _ h
  cases e
  ·exact wpD_some b s its Q h
  all_goals exact ⟨_,s,its,h⟩
 | .cond x a b,s,its,Q,h=>by
  obtain ⟨p,h1,h2,h3⟩:=h
  cases p
  ·exact wpD_some b s its Q (h3 rfl)
  ·exact wpD_some a s its Q (h2 rfl)
 | .block id a,s,its,Q,h=>by
  obtain ⟨e,s,its,h⟩:=wpD_some a s its _ h
  cases e
  all_goals exact ⟨_,s,its,h⟩
 | .loop a,s,its,Q,h=>by
  refine (h : loopW _ _ _ _) (fun _ _=>∃ e s its,Q e s its) fun s its q=>?_
  obtain ⟨e,s,its,q⟩:=wpD_some a s its _ q
  cases e
  ·exact q
  all_goals exact ⟨_,s,its,q⟩
end

def Hof (M : Nat → Nat) (its : Its) : Nat → Option Obj:=fun c=>(itAt its c).map fun t=>.mapIter (some (M c)) t.since t.seen.toArray t.stepped
structure RelD (X : Cx) (E0 E : Env) (M : Nat → Nat) (s : St) (its : Its) (a : Act) : Prop where
  rel : Rel (X.hide (Hof M its)) E s a
  base : Ext X E0 E
  size : E0.w.heap.size ≤ E.w.heap.size
  low : ∀ c t,itAt its c = some t → E0.w.heap.size ≤ c
  map : ∀ c t,itAt its c = some t → t.g < E.ct ∧ (E.h.cur t.b = some t.g → (E.m t.b).1 = M c)

section
variable {P : Program} {X : Cx} {G : Nat → List IV} {R : Run} {E0 E : Env} {M : Nat → Nat} {s : St} {its : Its} {a : Act}

theorem RelD.ext (h : RelD X E0 E M s its a) (hX : ∀ c,X.H c = none) {E' : Env} {s' : St} {a' : Act} (hr : Rel (X.hide (Hof M its)) E' s' a') (hE : Ext (X.hide (Hof M its)) E E') (hs : E.w.heap.size ≤ E'.w.heap.size) : RelD X E0 E' M s' its a':=by
 refine ⟨hr,h.base.transH hE h.size (fun c o hc=>?_) (fun c o hc=>by rw [hX] at hc; simp at hc),Nat.le_trans h.size hs,h.low,fun c t hc=>?_⟩
 ·right
  unfold Hof at hc;cases ht : itAt its c with
  | none=>simp [ht] at hc
  | some t=>exact h.low c t ht
 ·obtain ⟨h1,h2⟩:=h.map c t hc
  refine ⟨Nat.lt_of_lt_of_le h1 hE.ct,fun q=>?_⟩;obtain ⟨q1,q2,_⟩:=hE.cur t.b t.g h1 q;rw [q2];exact h2 q1
theorem op_go {ops : Array Oper} {i : Nat} {o : Oper} {d : Nat} {x : Value} {w' : World} {next : Act → World → Prop} {Q : Exit → Act → World → Prop} {w : World} (ho : ops[i]? = some o) (hg : o.guard.isNone = true) (hd : o.dst = some d) (hrun : (execOp a.eval o).run P w = .ok (.value x) w')
  (hn : next (a.put (some d) x) w') : wpOp P ops Q i next a w:=by
 unfold wpOp;have hw : Region.wanted o (yielded ops a.tmps) = true:=by
  have : o.guard = none:=by simpa using hg
  simp [Region.wanted,this]
 simp only [ho,hw,if_true];refine .inl ?_;unfold Oper.wp;rw [hrun,Oper.upon_value,hd];exact hn
theorem TR.extH' {X X' : Cx} {E E' : Env} (hE : ExtH X X' E E') (h : TR X E s a) : TR X' E' s a:=⟨h.defers,h.size,fun i v hv=>(h.at_ i v hv).extH hE⟩

theorem mv_sound (hr : Rel X E s a) {b c t g k : Nat} {es : List Ent} (ht : s.get t = .v (.c (.r (.map b g)))) (hb : s.hp.get b = some (.map g es k)) (hne : b ≠ c) (hPB : b < PB) :
  ∃ E',E'.w = E.w ∧ Rel X E' (s.mvm b c t es k) a ∧ Ext X E E':=by
 obtain ⟨E',hE'⟩ : ∃ E' : Env,E' = { E with h:=(E.h.del b).set c (.map E.ct es k),m:=fun q=>if q = c then E.m b else E.m q,ct:=E.ct + 1 }:=⟨_,rfl⟩;have hb0 : E.h.get b = some (.map g es k):=by rw [hr.h]; exact hb
 have hget : ∀ q,E'.h.get q = if q = c then some (.map E.ct es k) else if q = b then none else E.h.get q:=fun q=>by
  rw [hE',Heap.get_set];split
  ·rfl
  ·rw [Heap.get_del]
 have hm : ∀ q,E'.m q = if q = c then E.m b else E.m q:=fun q=>by rw [hE']
 have hw : E'.w = E.w:=by rw [hE']
 have hct : E'.ct = E.ct + 1:=by rw [hE']
 have hlive : ∀ q,E'.live q → E.live q:=by
  rintro q ⟨b2,h1,h2⟩;rw [hget] at h1;rw [hm] at h2;by_cases e : b2 = c
  ·simp only [e,if_true] at h2
   exact ⟨b,by rw [hb0]; rfl,h2⟩
  ·rw [if_neg e] at h1 h2
   split at h1
   ·simp at h1
   ·exact ⟨b2,h1,h2⟩
 have hE : Ext X E E':=by
  refine ⟨by rw [hct]; omega,fun b2 g2 hg hc=>?_,fun t c hc ho=>⟨?_,by rw [hw]⟩⟩
  ·unfold Heap.cur at hc ⊢
   rw [hget] at hc;by_cases e : b2 = c
   ·simp only [e,if_true,Option.map_some,Blk.gen,Option.some.injEq] at hc
    omega
   ·rw [if_neg e] at hc
    split at hc
    ·simp at hc
    ·refine ⟨hc,by rw [hm,if_neg e],fun cc e fr hcc=>⟨cc,e,fr,by rw [hw]; exact hcc,rfl⟩⟩
  ·rcases ho with ⟨q1,q2⟩ | q
   ·refine .inl ⟨q1,fun r=>q2 ?_⟩
    rcases r with r | r
    ·exact .inl (hlive _ r)
    ·exact .inr r
   ·exact .inr q
 have hW:=hr.wr;have hwr : WR X E':=by
  refine ⟨fun b2 y hy=>?_,fun b1 b2 h1 h2 he=>?_,by rw [hw]; exact hW.size,fun c hc hA=>by rw [hw]; exact hW.still c hc hA,by rw [hw]; exact hW.os,by rw [hw]; exact hW.tape,by rw [hw]; exact hW.output,hW.f1,hW.a0,fun c o hc=>?_⟩
  ·rw [hget] at hy
   by_cases e : b2 = c
   ·simp only [e,if_true,Option.some.injEq] at hy
    subst hy;obtain ⟨⟨ces,q1,q2⟩,_,q3⟩:=hW.blk b _ hb0;refine ⟨⟨ces,by rw [hm,if_pos e,hw]; exact q1,q2.mono fun _ _ r=>r.ext hE⟩,by rw [hct]; exact Nat.lt_succ_self _,?_⟩;rw [hm,if_pos e];rcases q3 with q3 | q3
    ·exact .inl q3
    ·have:=(hW.a0 b _ q3).1; omega
   ·rw [if_neg e] at hy
    split at hy
    ·simp at hy
    ·obtain ⟨q1,q2,q3⟩:=hW.blk b2 y hy
     refine ⟨q1.ext hE (by rw [hm,if_neg e]) (by rw [hw]),by rw [hct]; omega,by rw [hm,if_neg e]; exact q3⟩
  ·rw [hget] at h1 h2
   rw [hm,hm] at he;by_cases e1 : b1 = c
   ·by_cases e2 : b2 = c
    ·rw [e1,e2]
    ·rw [if_pos e1,if_neg e2] at he
     rw [if_neg e2] at h2;split at h2
     ·simp at h2
     ·rename_i e3
      exact absurd (hW.inj b b2 (by rw [hb0]; rfl) h2 he).symm e3
   ·rw [if_neg e1] at h1 he
    split at h1
    ·simp at h1
    ·rename_i e3
     by_cases e2 : b2 = c
     ·rw [if_pos e2] at he
      exact absurd (hW.inj b1 b h1 (by rw [hb0]; rfl) he) e3
     ·rw [if_neg e2] at h2 he
      split at h2
      ·simp at h2
      ·exact hW.inj b1 b2 h1 h2 he
  ·obtain ⟨g1,g2,g3⟩:=hW.hid c o hc
   exact ⟨by rw [hw]; exact g1,g2,fun r=>g3 (hlive _ r)⟩
 have htr:=hr.tr.ext (s':=s) hE rfl;refine ⟨E',hw,⟨by rw [hE',hr.h,hr.ct]; rfl,by rw [hct,hr.ct]; rfl,hwr,htr.defers,?_,fun i v hv=>?_⟩,hE⟩
 ·simp only [St.mvm,List.length_set]; exact htr.size
 ·simp only [St.mvm] at hv
  by_cases e : i = t
  ·subst e
   rw [List.getElem?_set] at hv;simp only [if_true] at hv;split at hv
   ·rename_i hlt
    simp only [Option.some.injEq] at hv;subst hv;have hold:=hr.tr.at_ i s.tm[i] (by simp [hlt]);have hsm : s.tm[i] = .v (.c (.r (.map b g))):=by
     unfold St.get at ht;rw [List.getD_eq_getElem?_getD] at ht;simpa [hlt] using ht
    rw [hsm] at hold;obtain ⟨o1,o2,o3⟩:=hold;refine ⟨o1,by rw [hct,hr.ct]; exact Nat.lt_succ_self _,fun _=>?_⟩;rw [hm,if_pos rfl];exact o3 (by unfold Heap.cur; rw [hb0]; rfl)
   ·simp at hv
  ·rw [List.getElem?_set_ne (Ne.symm e)] at hv
   exact htr.at_ i v hv
theorem regD_sound (hR : RunOk P G R) (hG : GOk X G) (hX : ∀ c,X.H c = none) {ops : Array Oper} {Q' : Exit → Act → World → Prop} : ∀ (l : List DIns) (i : Nat) (s : St) (its : Its) (E : Env) (M : Nat → Nat) (a : Act) (Q : St → Its → Prop),okDL P ops l i = true → i ≤ ops.size → wpDL G R l s its Q → RelD X E0 E M s its a →
  (∀ E' M' s' its' a',Q s' its' → RelD X E0 E' M' s' its' a' → Q' .normal a' E'.w) → wpOps P ops Q' ((List.range (ops.size - i)).map (i + ·)) a E.w
 | [],i,s,its,E,M,a,Q,hk,hi,hs,hr,hQ=>by
  simp [okDL] at hk
  subst hk
  simp [wpOps]
  exact hQ E M s its a hs hr
 | x :: l,i,s,its,E,M,a,Q,hk,hi,hs,hr,hQ=>by
  have hrng : i < ops.size → (List.range (ops.size - i)).map (i + ·) = i :: (List.range (ops.size - (i + 1))).map (i + 1 + ·):=fun hlt=>by
   have : ops.size - i = (ops.size - (i + 1)) + 1:=by omega
   rw [this,List.range_succ_eq_map]
   simp only [List.map_cons,List.map_map,Nat.add_zero]
   congr 1
   apply List.map_congr_left
   intro j _
   simp
   omega
  have lt_of : ∀ {o : Oper},ops[i]? = some o → i < ops.size:=fun h=>(Array.getElem?_eq_some_iff.1 h).1
  cases x with
  | ins y =>
   obtain ⟨s1,hs1,hs⟩:=hs
   cases y with
   | op d g k =>
    simp only [okDL,DIns.isOp,Ins.isOp,if_true,Bool.and_eq_true,okDIns] at hk
    have hlt : i < ops.size:=by
     rcases Nat.lt_or_ge i ops.size with h | h
     ·exact h
     ·have:=hk.1
      simp [okIns,Array.getElem?_eq_none h] at this
    rw [hrng hlt,wpOps_cons]
    refine ins_op (X:=X.hide (Hof M its)) hR hG hr.rel hk.1 hs1 fun E' a' h1 h2 h3 _=>?_
    exact regD_sound hR hG hX l (i + 1) s1 its E' M a' Q hk.2 hlt hs (hr.ext hX h1 h2 h3) hQ
   | kill ts bs =>
    obtain ⟨E',h1,h2,h3⟩:=ins_ghost hr.rel rfl hs1
    rw [← h1]
    exact regD_sound hR hG hX l i s1 its E' M a Q (by simpa [okDL,DIns.isOp,Ins.isOp] using hk) hi hs (hr.ext hX h2 h3 (by rw [h1]; exact Nat.le_refl _)) hQ
   | frz t =>
    obtain ⟨E',h1,h2,h3⟩:=ins_ghost hr.rel rfl hs1
    rw [← h1]
    exact regD_sound hR hG hX l i s1 its E' M a Q (by simpa [okDL,DIns.isOp,Ins.isOp] using hk) hi hs (hr.ext hX h2 h3 (by rw [h1]; exact Nat.le_refl _)) hQ
  | rng d y =>
   simp only [okDL,DIns.isOp,if_true,Bool.and_eq_true,okDIns] at hk
   obtain ⟨hk,hkl⟩:=hk
   split at hk
   ·rename_i o ho
    simp only [Bool.and_eq_true,beq_iff_eq] at hk
    obtain ⟨⟨hd,hg⟩,hk⟩:=hk
    split at hk
    ·rename_i t z hop
     simp only [Bool.and_eq_true] at hk
     obtain ⟨b,g,es,k,e1,e2,hs⟩:=hs
     have rx:=ev_sound hr.rel.tr hk.1
     rw [e1] at rx
     rw [← hr.rel.h] at e2
     obtain ⟨hget,hcur⟩:=Heap.mapAt_eq e2
     obtain ⟨_,hgc,hv⟩:=rx
     have hv:=hv hcur
     obtain ⟨⟨ces,hb,_⟩,_,_⟩:=hr.rel.wr.blk b _ hget
     obtain ⟨kt,et,ht⟩ : ∃ kt et,P.underlying t = some (.map kt et):=by
      have h0:=hk.2
      unfold isMapT at h0
      split at h0
      ·rename_i kt et h; exact ⟨kt,et,h⟩
      ·simp at h0
     have hrun : (execOp a.eval o).run P E.w = .ok (.value (.pointer (some ⟨E.w.heap.size,0,none⟩))) (E.w.alloc (.mapIter (some (E.m b).1) k #[] k)):=by
      have:=Go.run_range_map (P:=P) E.w t kt et (E.m b).1 ces k ht hb
      simp only [execOp,hop,hv,Sem.run_bind,this,Result.andThen_ok,Sem.run_pure]
     rw [hrng (lt_of ho),wpOps_cons]
     refine op_go ho hg hd hrun ?_
     have hheap : (E.w.alloc (.mapIter (some (E.m b).1) k #[] k)).heap = E.w.heap.push (.mapIter (some (E.m b).1) k #[] k):=rfl
     have hpush : ∀ j,j < E.w.heap.size → (E.w.alloc (.mapIter (some (E.m b).1) k #[] k)).heap[j]? = E.w.heap[j]?:=fun j hj=>by rw [hheap,Array.getElem?_push,if_neg (by omega)]
     have hlive : ∀ c,E.live c → c < E.w.heap.size:=fun c ⟨b,h1,h2⟩=>by
      obtain ⟨y,hy⟩:=Option.isSome_iff_exists.1 h1
      have:=hr.rel.wr.lt hy
      omega
     have hlow : ∀ c t,itAt its c = some t → c < E.w.heap.size:=fun c t hc=>by
      have hq : Hof M its c = some (.mapIter (some (M c)) t.since t.seen.toArray t.stepped):=by simp only [Hof,hc,Option.map_some]
      exact (Array.getElem?_eq_some_iff.1 (hr.rel.wr.hid c _ hq).1).1
     have hnone : itAt its E.w.heap.size = none:=by
      cases hq : itAt its E.w.heap.size with
      | none=>rfl
      | some t=>have:=hlow _ t hq; omega
     obtain ⟨M',hM'⟩ : ∃ M' : Nat → Nat,M' = fun c=>if c = E.w.heap.size then (E.m b).1 else M c:=⟨_,rfl⟩
     obtain ⟨its',hits⟩ : ∃ its' : Its,its' = (E.w.heap.size,⟨b,g,k,[],k⟩) :: its:=⟨_,rfl⟩
     have hH : ∀ c,Hof M' its' c = if c = E.w.heap.size then some (.mapIter (some (E.m b).1) k #[] k) else Hof M its c:=fun c=>by
      subst hits
      unfold Hof
      simp only [itAt]
      by_cases e : E.w.heap.size = c
      ·subst e; simp [hM']
      ·have : ¬ c = E.w.heap.size:=fun q=>e q.symm
       simp [e,this,hM']
     have hE : ExtH (X.hide (Hof M its)) ((X.hide (Hof M its)).hide (Hof M' its')) E { E with w:=E.w.alloc (.mapIter (some (E.m b).1) k #[] k) }:=by
      refine ⟨rfl,rfl,rfl,fun c hc=>hpush c (hlive c hc),fun t c hc hok=>⟨?_,hpush c hc⟩⟩
      rcases hok with ⟨p1,p2⟩ | p
      ·refine .inl ⟨p1,fun q=>p2 ?_⟩
       rcases q with q | q
       ·exact .inl q
       ·refine .inr ?_
        have : (Hof M' its' c).isSome = true:=q
        rw [hH,if_neg (show ¬ c = E.w.heap.size by omega)] at this
        exact this
      ·exact .inr p
     have hwr : WR (X.hide (Hof M' its')) { E with w:=E.w.alloc (.mapIter (some (E.m b).1) k #[] k) }:=hr.rel.wr.extH hE (by simp [hheap]) (fun c hc=>hpush c (Nat.lt_of_lt_of_le hc hr.rel.wr.size)) rfl rfl rfl fun c o' hc=>by
      rw [hH] at hc
      split at hc
      ·rename_i e
       subst e
       simp at hc
       subst hc
       exact ⟨by rw [hheap,Array.getElem?_push]; simp,hr.rel.wr.size,fun q=>absurd (hlive _ q) (Nat.lt_irrefl _)⟩
      ·obtain ⟨g1,g2,g3⟩:=hr.rel.wr.hid c o' hc
       exact ⟨by rw [hpush c (Array.getElem?_eq_some_iff.1 g1).1]; exact g1,g2,g3⟩
     have htr : TR (X.hide (Hof M' its')) { E with w:=E.w.alloc (.mapIter (some (E.m b).1) k #[] k) } s a:=TR.extH' hE hr.rel.tr
     have hrel : Rel (X.hide (Hof M' its')) { E with w:=E.w.alloc (.mapIter (some (E.m b).1) k #[] k) } (s.put (some d) (V (.gp E.w.heap.size 0))) (a.put (some d) (.pointer (some ⟨E.w.heap.size,0,none⟩))) :=
      ⟨hr.rel.h,hr.rel.ct,hwr,htr.put _ (VR.gp _ _)⟩
     have hD : RelD X E0 { E with w:=E.w.alloc (.mapIter (some (E.m b).1) k #[] k) } M' (s.put (some d) (V (.gp E.w.heap.size 0))) its' (a.put (some d) (.pointer (some ⟨E.w.heap.size,0,none⟩))):=by
      refine ⟨hrel,hr.base.stepH rfl rfl rfl (fun c hc=>hpush c (hlive c hc)) (fun c hc=>hpush c (Nat.lt_of_lt_of_le hc hr.size)),Nat.le_trans hr.size (by simp [hheap]),fun c t hc=>?_,fun c t hc=>?_⟩
      ·subst hits
       simp only [itAt] at hc
       split at hc
       ·rename_i e; rw [← e]; exact hr.size
       ·exact hr.low c t hc
      ·subst hits
       simp only [itAt] at hc
       split at hc
       ·rename_i e
        subst e
        simp at hc
        subst hc
        exact ⟨hgc,fun _=>by simp [hM']⟩
       ·rename_i e
        have e2 : ¬ c = E.w.heap.size:=fun q=>e q.symm
        have:=hr.map c t hc
        exact ⟨this.1,fun q=>by rw [hM']; simp only [if_neg e2]; exact this.2 q⟩
     have hs':=hs E.w.heap.size hnone
     rw [← hits] at hs'
     exact regD_sound hR hG hX l (i + 1) _ _ _ M' _ Q hkl (lt_of ho) hs' hD hQ
    ·simp at hk
   ·simp at hk
  | nx d y =>
   simp only [okDL,DIns.isOp,if_true,Bool.and_eq_true,okDIns] at hk
   obtain ⟨hk,hkl⟩:=hk
   split at hk
   ·rename_i o ho
    simp only [Bool.and_eq_true,beq_iff_eq] at hk
    obtain ⟨⟨hd,hg⟩,hk⟩:=hk
    split at hk
    ·rename_i z hop
     obtain ⟨c,t,es,k,e1,e2,e3,e4,e5,hsN,hsE⟩:=hs
     have rx:=ev_sound hr.rel.tr hk
     rw [e1] at rx
     have hv : a.eval z = .pointer (some ⟨c,0,none⟩):=by
      have rx2 : VR _ _ (.gp c 0) (a.eval z):=rx
      cases hq : a.eval z <;> rw [hq] at rx2 <;> cases rx2
      rfl
     rw [← hr.rel.h] at e3
     obtain ⟨hget,hcur⟩:=Heap.mapAt_eq e3
     obtain ⟨⟨ces,hb,hall⟩,_,_⟩:=hr.rel.wr.blk t.b _ hget
     have hMc:=(hr.map c t e2).2 hcur
     have hH0 : Hof M its c = some (.mapIter (some (M c)) t.since t.seen.toArray t.stepped):=by simp only [Hof,e2,Option.map_some]
     obtain ⟨hc1,hc2,hc3⟩:=hr.rel.wr.hid c _ hH0
     rw [hMc] at hb
     have hold : ∀ x ∈ ces.toList,x.born < t.since:=fun x hx=>by
      obtain ⟨j,hj,rfl⟩:=List.getElem_of_mem hx
      have hl:=hall.length
      obtain ⟨e,he⟩ : ∃ e,es[j]? = some e:=⟨es[j]'(by omega),by simp [show j < es.length by omega]⟩
      obtain ⟨v,hv1,hv2⟩:=hall.get j e he
      have : ces.toList[j]? = some ces.toList[j]:=by simp [hj]
      rw [this] at hv1
      obtain rfl:=Option.some.inj hv1
      rw [hv2.born]
      exact e4 e (List.mem_of_getElem? he)
     have conc : ∀ e ∈ es,∃ x ∈ ces.toList,x.born = e.born:=fun e he=>by
      obtain ⟨j,hj,rfl⟩:=List.getElem_of_mem he
      obtain ⟨v,hv1,hv2⟩:=hall.get j es[j] (by simp [hj])
      exact ⟨v,List.mem_of_getElem? hv1,hv2.born⟩
     rw [hrng (lt_of ho),wpOps_cons]
     rcases run_next_at (P:=P) E.w 0 c (M c) t.since t.stepped t.seen.toArray ces k hc1 hb hold e5 with ⟨h0,hrun⟩ | ⟨ec,hec,w1,hw1,hrun⟩
     ·refine op_go ho hg hd (x:=.tuple #[.bool false]) (w':=E.w) ?_ ?_
      ·simp only [execOp,hop,hv,Sem.run_bind]
       have : ∀ ty,Instr.next (.pointer (some ⟨c,0,none⟩)) false ty = Instr.next (.pointer (some ⟨c,0,none⟩)) false 0:=fun _=>rfl
       rw [this,hrun]
       simp only [Result.andThen_ok,Sem.run_pure]
      ·have hseen : ∀ e ∈ es,e.born ∈ t.seen:=fun e he=>by
        obtain ⟨x,hx,hxb⟩:=conc e he
        have:=all_seen ces t.seen.toArray h0 x hx
        rw [hxb] at this
        simpa using this
       have hD : RelD X E0 E M (s.put (some d) (.tup [.c (I (.bool false))])) its (a.put (some d) (.tuple #[.bool false])) :=
        ⟨⟨hr.rel.h,hr.rel.ct,hr.rel.wr,hr.rel.tr.put _ ⟨[.bool false],rfl,.cons (VR.bool _) .nil⟩⟩,hr.base,hr.size,hr.low,hr.map⟩
       exact regD_sound hR hG hX l (i + 1) _ _ E M _ Q hkl (lt_of ho) (hsN hseen) hD hQ
     ·obtain ⟨hec1,hec2⟩:=mem_left hec
      obtain ⟨j,hj,hje⟩:=List.getElem_of_mem hec1
      have hl:=hall.length
      obtain ⟨e,he⟩ : ∃ e,es[j]? = some e:=⟨es[j]'(by omega),by simp [show j < es.length by omega]⟩
      obtain ⟨v,hv1,hv2⟩:=hall.get j e he
      have hjj : ces.toList[j]? = some ec:=by rw [← hje]; simp [hj]
      rw [hjj] at hv1
      obtain rfl:=Option.some.inj hv1
      have hnew : e.born ∉ t.seen:=fun q=>by
       rw [hv2.born] at hec2
       have : t.seen.toArray.contains e.born = true:=by simpa using q
       rw [this] at hec2
       simp at hec2
      obtain ⟨t',ht'⟩ : ∃ t' : MIt,t' = ⟨t.b,t.g,t.since,t.seen ++ [e.born],k⟩:=⟨_,rfl⟩
      have hs':=hsE e (List.mem_of_getElem? he) hnew
      rw [← ht'] at hs'
      have hw1h : w1.heap = E.w.heap ∧ w1.os = E.w.os ∧ w1.tape = E.w.tape ∧ w1.output = E.w.output:=by
       rcases hw1 with rfl | rfl <;> exact ⟨rfl,rfl,rfl,rfl⟩
      obtain ⟨wn,hwn⟩ : ∃ wn : World,wn = Go.ChangeMaps.setBlock w1 c (.mapIter (some (M c)) t.since (t.seen.toArray.push ec.born) k):=⟨_,rfl⟩
      rw [← hwn] at hrun
      have hheap : wn.heap = E.w.heap.setIfInBounds c (.mapIter (some (M c)) t.since (t.seen.toArray.push ec.born) k):=by rw [hwn,← hw1h.1]; rfl
      have hoth : ∀ j,j ≠ c → wn.heap[j]? = E.w.heap[j]?:=fun j hj=>by rw [hheap,Array.getElem?_setIfInBounds_ne (Ne.symm hj)]
      have hclt : c < E.w.heap.size:=(Array.getElem?_eq_some_iff.1 hc1).1
      have hself : wn.heap[c]? = some (.mapIter (some (M c)) t.since (t.seen.toArray.push ec.born) k):=by rw [hheap]; simp [hclt]
      have hsz : wn.heap.size = E.w.heap.size:=by rw [hheap]; simp
      have hH : ∀ j,Hof M (itSet its c t') j = if j = c then some (.mapIter (some (M c)) t.since (t.seen.toArray.push ec.born) k) else Hof M its j:=fun j=>by
       unfold Hof
       rw [itSet_at e2]
       by_cases q : c = j
       ·subst q
        simp [ht',hv2.born]
       ·have : ¬ j = c:=fun r=>q r.symm
        simp [q,this]
      have hE : ExtH (X.hide (Hof M its)) ((X.hide (Hof M its)).hide (Hof M (itSet its c t'))) E { E with w:=wn }:=by
       refine ⟨rfl,rfl,rfl,fun q hq=>hoth q fun r=>hc3 (r ▸ hq),fun tg q hq hok=>?_⟩
       have hne : q ≠ c:=by
        rintro rfl
        rcases hok with ⟨_,p⟩ | ⟨_,p⟩
        ·exact p (.inr (by show (Hof M its q).isSome = true; rw [hH0]; rfl))
        ·have h5:=(hr.rel.wr.f1 q p).1
         have h6 : X.w0.heap.size ≤ q:=hc2
         have h7 : q < X.w0.heap.size:=h5
         omega
       refine ⟨?_,hoth q hne⟩
       rcases hok with ⟨p1,p2⟩ | p
       ·refine .inl ⟨p1,fun r=>p2 ?_⟩
        rcases r with r | r
        ·exact .inl r
        ·refine .inr ?_
         have : (Hof M (itSet its c t') q).isSome = true:=r
         rw [hH,if_neg hne] at this
         exact this
       ·exact .inr p
      have hwr : WR (X.hide (Hof M (itSet its c t'))) { E with w:=wn }:=hr.rel.wr.extH hE (by rw [hsz]; exact Nat.le_refl _) (fun q hq=>hoth q (by have h6 : X.w0.heap.size ≤ c:=hc2; have h7 : q < X.w0.heap.size:=hq; omega)) (by rw [hwn]; exact hw1h.2.1) (by rw [hwn]; exact hw1h.2.2.1) (by rw [hwn]; exact hw1h.2.2.2) fun q o' hq=>by
       rw [hH] at hq
       split at hq
       ·rename_i r
        subst r
        obtain rfl:=Option.some.inj hq
        exact ⟨hself,hc2,hc3⟩
       ·rename_i r
        obtain ⟨g1,g2,g3⟩:=hr.rel.wr.hid q o' hq
        exact ⟨by rw [hoth q r]; exact g1,g2,g3⟩
      have htr : TR (X.hide (Hof M (itSet its c t'))) { E with w:=wn } s a:=TR.extH' hE hr.rel.tr
      refine op_go ho hg hd (x:=.tuple #[.bool true,ec.key,ec.val]) (w':=wn) ?_ ?_
      ·simp only [execOp,hop,hv,Sem.run_bind]
       have : ∀ ty,Instr.next (.pointer (some ⟨c,0,none⟩)) false ty = Instr.next (.pointer (some ⟨c,0,none⟩)) false 0:=fun _=>rfl
       rw [this,hrun]
       simp only [Result.andThen_ok,Sem.run_pure]
      ·have hD : RelD X E0 { E with w:=wn } M (s.put (some d) (.tup [.c (I (.bool true)),e.key,e.val])) (itSet its c t') (a.put (some d) (.tuple #[.bool true,ec.key,ec.val])):=by
        refine ⟨⟨hr.rel.h,hr.rel.ct,hwr,htr.put _ ⟨[.bool true,ec.key,ec.val],rfl,.cons (VR.bool _) (.cons (hv2.key.extH hE) (.cons (hv2.val.extH hE) .nil))⟩⟩,hr.base.stepH rfl rfl rfl (fun q hq=>hoth q fun r=>hc3 (r ▸ hq)) (fun q hq=>hoth q (by have:=hr.low c t e2; omega)),by show E0.w.heap.size ≤ wn.heap.size; rw [hsz]; exact hr.size,fun q u hq=>?_,fun q u hq=>?_⟩
        ·rw [itSet_at e2] at hq
         split at hq
         ·rename_i r; subst r; exact hr.low c t e2
         ·exact hr.low q u hq
        ·rw [itSet_at e2] at hq
         split at hq
         ·rename_i r
          subst r
          obtain rfl:=Option.some.inj hq
          have:=hr.map c t e2
          rw [ht']
          exact this
         ·exact hr.map q u hq
       exact regD_sound hR hG hX l (i + 1) _ _ _ M _ Q hkl (lt_of ho) hs' hD hQ
    ·simp at hk
   ·simp at hk
  | ent d y =>
   simp only [okDL,DIns.isOp,if_true,Bool.and_eq_true,okDIns] at hk
   obtain ⟨hk,hkl⟩:=hk
   split at hk
   ·rename_i o ho
    simp only [Bool.and_eq_true,beq_iff_eq] at hk
    obtain ⟨⟨hd,hg⟩,hk⟩:=hk
    split at hk
    ·rename_i z hop
     obtain ⟨c,t,es,k,e,sn,e1,e2,e3,e4,e5,e6,e7,hs⟩:=hs
     have rx:=ev_sound hr.rel.tr hk
     rw [e1] at rx
     have hv : a.eval z = .pointer (some ⟨c,0,none⟩):=by
      have rx2 : VR _ _ (.gp c 0) (a.eval z):=rx
      cases hq : a.eval z <;> rw [hq] at rx2 <;> cases rx2
      rfl
     rw [← hr.rel.h] at e3
     obtain ⟨hget,hcur⟩:=Heap.mapAt_eq e3
     obtain ⟨⟨ces,hb,hall⟩,_,_⟩:=hr.rel.wr.blk t.b _ hget
     have hMc:=(hr.map c t e2).2 hcur
     have hH0 : Hof M its c = some (.mapIter (some (M c)) t.since t.seen.toArray t.stepped):=by simp only [Hof,e2,Option.map_some]
     obtain ⟨hc1,_,_⟩:=hr.rel.wr.hid c _ hH0
     rw [hMc] at hb
     obtain ⟨j,hj,hje⟩:=List.getElem_of_mem e5
     obtain ⟨ec,hv1,hv2⟩:=hall.get j e (by rw [← hje]; simp [hj])
     have hborn : ces.toList.map (·.born) = es.map (·.born):=by
      apply List.ext_getElem?
      intro q
      rw [List.getElem?_map,List.getElem?_map]
      cases hq : es[q]? with
      | none =>
       have h1:=hall.length
       have h2 : es.length ≤ q:=by simpa using hq
       rw [List.getElem?_eq_none (by omega)]; rfl
      | some u =>
       obtain ⟨uc,u1,u2⟩:=hall.get q u hq
       rw [u1]
       simp [u2.born]
     rw [e6,e4,← hv2.born] at hc1
     have hc1' : E.w.heap[c]? = some (.mapIter (some (M c)) t.since (sn.toArray.push ec.born) k):=by rw [hc1]; simp
     have hrun:=run_entry_at (P:=P) E.w c (M c) t.since sn.toArray ces k ec hc1' hb (List.mem_of_getElem? hv1) (by rw [hborn]; exact e7)
     rw [hrng (lt_of ho),wpOps_cons]
     refine op_go ho hg hd (x:=.tuple #[ec.key,ec.val]) (w':=E.w) ?_ ?_
     ·simp only [execOp,hop,hv,Sem.run_bind,hrun,Result.andThen_ok,Sem.run_pure]
     ·have hD : RelD X E0 E M (s.put (some d) (.tup [e.key,e.val])) its (a.put (some d) (.tuple #[ec.key,ec.val])) :=
       ⟨⟨hr.rel.h,hr.rel.ct,hr.rel.wr,hr.rel.tr.put _ ⟨[ec.key,ec.val],rfl,.cons hv2.key (.cons hv2.val .nil)⟩⟩,hr.base,hr.size,hr.low,hr.map⟩
      exact regD_sound hR hG hX l (i + 1) _ _ E M _ Q hkl (lt_of ho) hs hD hQ
    ·simp at hk
   ·simp at hk
  | mv b c t =>
   obtain ⟨g,es,k,e1,e2,e3,e4,hs⟩:=hs
   obtain ⟨E',h1,h2,h3⟩:=mv_sound hr.rel e1 e2 e3 e4
   rw [← h1]
   exact regD_sound hR hG hX l i _ its E' M a Q (by simpa [okDL,DIns.isOp] using hk) hi hs (hr.ext hX h2 h3 (by rw [h1]; exact Nat.le_refl _)) hQ

def BehD (X : Cx) (E0 : Env) (Q : Ex → St → Its → Prop) (e : Exit) (a' : Act) (w' : World) : Prop:=∃ ex s' its' E' M',ExOk ex e ∧ E'.w = w' ∧ RelD X E0 E' M' s' its' a' ∧ Q ex s' its'
theorem codeD_sound (hR : RunOk P G R) (hG : GOk X G) (hX : ∀ c,X.H c = none) : ∀ (x : IRD) (c : Code) (s : St) (its : Its) (E : Env) (M : Nat → Nat) (a : Act) (Q : Ex → St → Its → Prop),okIRD P x c = true → wpD G R x s its Q → RelD X E0 E M s its a → c.wp P (BehD X E0 Q) a E.w
 | .base x,c,s,its,E,M,a,Q,hk,hs,hr=>by
  obtain ⟨n,ex,s',hs,hQ⟩:=hs
  refine wp_mono (exec_sound (X:=X.hide (Hof M its)) hR hG n x c s s' ex E a hk hs hr.rel) ?_
  rintro e a' w' ⟨he,E',rfl,h1,h2,h3⟩
  exact ⟨ex,s',its,E',M,he,rfl,hr.ext hX h1 h2 h3,hQ⟩
 | .reg l,c,s,its,E,M,a,Q,hk,hs,hr=>by
  cases c <;> simp [okIRD] at hk
  rename_i id ops draw
  obtain ⟨rfl,hk⟩:=hk
  refine wp_region ?_
  have:=regD_sound hR hG hX (Q':=BehD X E0 Q) l 0 s its E M a (Q .normal) hk (Nat.zero_le _) hs hr fun E' M' s' its' a' hq h1=>⟨.normal,s',its',E',M',trivial,rfl,h1,hq⟩
  simpa using this
 | .seq x y,c,s,its,E,M,a,Q,hk,hs,hr=>by
  cases c <;> simp [okIRD] at hk
  rename_i c d
  refine wp_seq (wp_mono (codeD_sound hR hG hX x c s its E M a _ hk.1 hs hr) ?_)
  rintro e a' w' ⟨ex,s',its',E',M',he,rfl,h1,hq⟩
  cases ex with
  | normal =>
   cases e <;> simp [ExOk] at he
   exact codeD_sound hR hG hX y d s' its' E' M' a' Q hk.2 hq h1
  | exit i =>
   cases e <;> simp [ExOk] at he
   subst he
   exact ⟨.exit i,s',its',E',M',rfl,rfl,h1,hq⟩
  | ret =>
   cases e <;> simp [ExOk] at he
   exact ⟨.ret,s',its',E',M',trivial,rfl,h1,hq⟩
 | .cond x p q,c,s,its,E,M,a,Q,hk,hs,hr=>by
  cases c <;> simp [okIRD] at hk
  rename_i y c d
  obtain ⟨b,hb,h1,h2⟩:=hs
  have r:=ev_sound hr.rel.tr hk.1.1
  cases b with
  | true=>exact wp_cond_true (bool_sound r hb) (codeD_sound hR hG hX p c s its E M a Q hk.1.2 (h1 rfl) hr)
  | false=>exact wp_cond_false (bool_sound r hb) (codeD_sound hR hG hX q d s its E M a Q hk.2 (h2 rfl) hr)
 | .block i x,c,s,its,E,M,a,Q,hk,hs,hr=>by
  cases c <;> simp [okIRD] at hk
  rename_i j c
  obtain ⟨rfl,hk⟩:=hk
  refine wp_block (wp_mono (codeD_sound hR hG hX x c s its E M a _ hk hs hr) ?_)
  rintro e a' w' ⟨ex,s',its',E',M',he,rfl,h1,hq⟩
  cases ex with
  | normal =>
   cases e <;> simp [ExOk] at he
   exact ⟨.normal,s',its',E',M',trivial,rfl,h1,hq⟩
  | exit k =>
   cases e <;> simp [ExOk] at he
   subst he
   simp only [Exit.inBlock]
   simp only [inBlkD] at hq
   split
   ·rename_i h
    simp only [h,if_true] at hq
    exact ⟨.normal,s',its',E',M',trivial,rfl,h1,hq⟩
   ·rename_i h
    simp only [h,if_false] at hq
    exact ⟨.exit k,s',its',E',M',rfl,rfl,h1,hq⟩
  | ret =>
   cases e <;> simp [ExOk] at he
   exact ⟨.ret,s',its',E',M',trivial,rfl,h1,hq⟩
 | .loop x,c,s,its,E,M,a,Q,hk,hs,hr=>by
  cases c <;> simp [okIRD] at hk
  rename_i c
  intro b k cs
  have key:=(hs : loopW _ _ _ _) (fun s its=>∀ (E : Env) (M : Nat → Nat) (a : Act),RelD X E0 E M s its a → ∃ e a' w',BehD X E0 Q e a' w' ∧ Arrives P (lone (b.at a (.code c :: .inLoop c :: k)) cs E.w) b k cs e a' w') ?_ E M a hr
  ·obtain ⟨e,a',w',hq,harr⟩:=key
   exact ⟨e,a',w',hq,.of_steps (.one step_loop) harr⟩
  ·intro s its hs E M a hr
   obtain ⟨e,a₁,w₁,⟨ex,s',its',E',M',he,rfl,h1,hq⟩,harr⟩:=codeD_sound hR hG hX x c s its E M a _ hk hs hr b (.inLoop c :: k) cs
   cases ex with
   | normal =>
    cases e <;> simp [ExOk] at he
    obtain ⟨e₂,a₂,w₂,hq₂,harr₂⟩:=hq E' M' a₁ h1
    exact ⟨e₂,a₂,w₂,hq₂,.of_steps (Steps.trans harr (.one step_inLoop)) harr₂⟩
   | exit i =>
    cases e <;> simp [ExOk] at he
    subst he
    exact ⟨.exit i,a₁,_,⟨.exit i,s',its',E',M',rfl,rfl,h1,hq⟩,.pass (x:=.inLoop c) rfl (fun _ _=>.inl (by simp)) harr⟩
   | ret =>
    cases e <;> simp [ExOk] at he
    exact ⟨.ret,a₁,_,⟨.ret,s',its',E',M',trivial,rfl,h1,hq⟩,.pass (x:=.inLoop c) rfl (fun _ _=>.inl (by simp)) harr⟩
end
structure FnD where
  nt : Nat
  res : List Res
  body : IRD
def FnD.fn (x : FnD) : Fn:={ nt:=x.nt,res:=x.res,body:=.skip }
def okFnD (P : Program) (f : Nat) (fn : FnD) : Bool :=
  match P.funcs[f]? with
  | some g=>match g.body with
    | some c=>g.ntmps == fn.nt && okRes P g.results.toList fn.res && okIRD P fn.body c && g.name != "runtime.NumGoroutine"
    | none=>false
  | none=>false
def endD (res : List Res) (rs : List A1) : Ex → St → Its → Prop
  | .exit _,_,_=>False
  | _,s,_=>traverse (readRes s) res = some rs
noncomputable def demR (G : Nat → List IV) (R : Run) (D : Nat → Option FnD) : Run:=fun f args bs =>
  match D f,bs with
  | some fd,[]=>open Classical in if h : ∃ rs,wpD G R fd.body (start fd.fn args []) [] (endD fd.res rs) then some (h.choose,[]) else none
  | _,_=>none

section
variable {P : Program} {G : Nat → List IV} {R : Run} {D : Nat → Option FnD}

theorem demR_of {f : Nat} {fd : FnD} (hf : D f = some fd) {args rs : List A1} (h : wpD G R fd.body (start fd.fn args []) [] (endD fd.res rs)) : demR G R D f args [] = some (rs,[]):=by
 have hex : ∃ rs,wpD G R fd.body (start fd.fn args []) [] (endD fd.res rs):=⟨rs,h⟩;have e : demR G R D f args [] = some (hex.choose,[]):=by
  unfold demR;simp only [hf];rw [dif_pos hex]
 rw [e];obtain ⟨ex,s,its,h1,h2⟩:=wpD_some _ _ _ _ (wpD_both _ _ _ _ _ h hex.choose_spec);have : rs = hex.choose:=by
  cases ex with
  | exit i=>exact h1.elim
  | normal=>exact Option.some.inj (h1.symm.trans h2)
  | ret=>exact Option.some.inj (h1.symm.trans h2)
 rw [← this]


theorem mem_del {b c : Nat} {x : Blk} : ∀ (h : Heap),(c,x) ∈ h.del b → (c,x) ∈ h ∧ c ≠ b
 | [],e=>by simp [Heap.del] at e
 | (k,y) :: h,e=>by
  simp only [Heap.del] at e
  split at e
  ·have:=mem_del h e
   exact ⟨List.mem_cons_of_mem _ this.1,this.2⟩
  ·rename_i hne
   rcases List.mem_cons.1 e with q | q
   ·simp only [Prod.mk.injEq] at q
    obtain ⟨rfl,rfl⟩:=q
    exact ⟨List.mem_cons_self ..,hne⟩
   ·have:=mem_del h q
    exact ⟨List.mem_cons_of_mem _ this.1,this.2⟩
theorem demR_ok (hR : RunOk P G R) (hD : ∀ f fd,D f = some fd → okFnD P f fd = true) : RunOk P G (demR G R D):=by
 intro f args bs rs h e X ids E0 lent cargs X' E hW hG ha;unfold demR at e;split at e;rotate_left
 ·simp at e
 rename_i fd hfd;split at e;rotate_left
 ·simp at e
 rename_i hex;simp only [Option.some.injEq,Prod.mk.injEq] at e;obtain ⟨e1,rfl⟩:=e;have hwp:=hex.choose_spec;rw [e1] at hwp;have hok:=hD f fd hfd;unfold okFnD at hok;split at hok
 ·rename_i g hg
  split at hok
  ·rename_i c hc
   simp at hok;obtain ⟨⟨⟨hnt,hres⟩,hir⟩,hname⟩:=hok;refine .inl ⟨?_,?_⟩
   ·simp [callFunc,hg,hname,hc]
   ·have hl:=ha.length
    have hr0 : Rel X' E (start fd.fn args []) { tmps:=cargs.toArray ++ Array.replicate (g.ntmps - cargs.toArray.size) undef,defers:=[] }:=by
     refine ⟨rfl,rfl,hW,rfl,?_,fun i v hv=>?_⟩
     ·simp [start,FnD.fn,hnt,hl]
     ·simp only [start,FnD.fn] at hv
      by_cases hi : i < args.length
      ·rw [List.getElem?_append_left (by simpa using hi),List.getElem?_map] at hv
       cases hq : args[i]? with
       | none=>simp [hq] at hv
       | some z =>
        simp [hq] at hv;subst hv;obtain ⟨w,hw,hrw⟩:=ha.get i z hq;have hi2 : i < cargs.length:=by omega
        have hw2 : cargs[i] = w:=by
         have:=List.getElem?_eq_getElem hi2
         rw [hw] at this; simpa using this.symm
        have : (cargs.toArray ++ Array.replicate (g.ntmps - cargs.toArray.size) undef).getD i undef = w:=by
         rw [Array.getD_eq_getD_getElem?,Array.getElem?_append_left (by simpa using hi2)];simp [hi2,hw2]
        rw [this];exact hrw
      ·rw [List.getElem?_append_right (by simpa using Nat.le_of_not_lt hi)] at hv
       rw [List.getElem?_replicate] at hv;split at hv
       ·simp at hv; subst hv; trivial
       ·simp at hv
    have hX' : ∀ c,X'.H c = none:=fun _=>rfl;have hrd : RelD X' E E (fun _=>0) (start fd.fn args []) [] { tmps:=cargs.toArray ++ Array.replicate (g.ntmps - cargs.toArray.size) undef,defers:=[] } :=
     ⟨hr0,Ext.refl X' E,Nat.le_refl _,fun c t hc=>by simp [itAt] at hc,fun c t hc=>by simp [itAt] at hc⟩
    refine calls_of_wp hg hc (wp_mono (codeD_sound hR hG hX' fd.body c _ [] E _ _ _ hir hwp hrd) ?_);rintro e a' w' ⟨ex,s1,its,E',M',h1,rfl,h2,h3⟩;have hun : ExtH (X'.hide (Hof M' its)) X' E' E':=by
     refine ⟨rfl,rfl,rfl,fun _ _=>rfl,fun t c hc hk=>⟨?_,rfl⟩⟩;rcases hk with ⟨p1,p2⟩ | p
     ·refine .inl ⟨p1,fun q=>p2 ?_⟩
      rcases q with q | q
      ·exact .inl q
      ·rw [hX'] at q; simp at q
     ·exact .inr p
    have hwr : WR X' E':=WR.extH (H':=X'.H) h2.rel.wr hun (Nat.le_refl _) (fun _ _=>rfl) rfl rfl rfl fun c o q=>by rw [hX'] at q; simp at q
    have fin : traverse (readRes s1) fd.res = some rs → a'.defers = [] ∧ ∃ v,(results g a'.tmps).run P E'.w = .ok v E'.w ∧ ∃ v',Ending.returned v = .returned v' ∧ ∃ E'',E''.w = E'.w ∧ E''.h = [] ∧ WR X' E'' ∧ Ext X' E E'' ∧ ∃ vs,All2 (A1R X' E'') rs vs ∧ v' = retV vs:=fun hrs=>by
     obtain ⟨vs,q1,q2⟩:=results_sound h2.rel hres hrs;have hde:=Drop.ext X' E' (E'.h.map Prod.fst);have hall : ∀ (l : List Nat) (h : Heap),(∀ b x,(b,x) ∈ h → b ∈ l) → delAll h l = []:=fun l=>by
      induction l with
      | nil =>
       intro h hh;cases h with
       | nil=>rfl
       | cons p t=>exact absurd (hh p.1 p.2 (List.mem_cons_self ..)) (by simp)
      | cons b l ih =>
       intro h hh;refine ih _ fun c x hc=>?_
       have:=mem_del h hc
       rcases List.mem_cons.1 (hh c x this.1) with q | q
       ·exact absurd q this.2
       ·exact q
     have hnil : delAll E'.h (E'.h.map Prod.fst) = []:=hall _ _ fun b x hb=>List.mem_map.2 ⟨(b,x),hb,rfl⟩;rw [hnil] at hde;have hwr':=Drop.wr (E'.h.map Prod.fst) hwr;rw [hnil] at hwr';refine ⟨h2.rel.tr.defers,_,q1,_,rfl,{ E' with h:=[] },rfl,rfl,hwr',h2.base.trans hde h2.size,vs,?_,rfl⟩;exact q2.mono fun x v q=>(A1R.extH hun q).ext hde
    cases ex with
    | normal=>cases e <;> simp [ExOk] at h1; exact fin h3
    | ret=>cases e <;> simp [ExOk] at h1; exact fin h3
    | exit i=>exact h3.elim
  ·simp at hok
 ·simp at hok

def orR (A B : Run) : Run:=fun f args bs=>match A f args bs with
  | some r=>some r
  | none=>B f args bs
theorem orR_ok {A B : Run} (hA : RunOk P G A) (hB : RunOk P G B) : RunOk P G (orR A B):=by
 intro f args bs rs h e X ids E0 lent cargs X' E hW hG ha;unfold orR at e;split at e
 ·rename_i r hr
  simp at e;subst e;exact hA f args bs rs h hr X ids E0 lent cargs hW hG ha
 ·exact hB f args bs rs h e X ids E0 lent cargs hW hG ha
theorem lim_ok {F : Nat → Option Fn} {Xr : Run} (hF : ∀ f fn,F f = some fn → okFn P f fn = true) (hX : RunOk P G Xr) : RunOk P G (lim G F Xr):=by
 intro f args bs rs h e;obtain ⟨n,d,e⟩:=lim_ex e;exact run_sound hF hX n d f args bs rs h e

class Up (A B : Run) : Prop where
  le : A.le B
instance Up.refl (A : Run) : Up A A:=⟨fun _ _ _ _ h=>h⟩
theorem orR_left (A B : Run) : A.le (orR A B):=fun f args bs r h=>by unfold orR; rw [h]
theorem orR_right {A B : Run} {f : Nat} (hf : ∀ args bs,A f args bs = none) {args : List A1} {bs : List Blk} {r : List A1 × Heap} (h : B f args bs = some r) : orR A B f args bs = some r:=by unfold orR; rw [hf]; exact h
theorem lim_up {F : Nat → Option Fn} {A B : Run} [h : Up A B] {f : Nat} (hf : F f = none) {args : List A1} {bs : List Blk} {r : List A1 × Heap} (e : A f args bs = some r) : lim G F B f args bs = some r :=
 lim_x hf args bs (h.le _ _ _ _ e)
end

/- Stepping rules. -/
section
variable {nt : Nat} {σ : Sl} {hp : Heap} {ct : Nat} {its : Its} {G : Nat → List IV} {R : Run}

def wpDσ (G : Nat → List IV) (R : Run) (nt : Nat) (c : IRD) (σ : Sl) (hp : Heap) (ct : Nat) (its : Its) (Q : Ex → Sl → Heap → Nat → Its → Prop) : Prop :=
  wpD G R c (mkS nt σ hp ct) its fun ex s its=>∃ σ' hp' ct',s = mkS nt σ' hp' ct' ∧ Q ex σ' hp' ct' its
def thenD (G : Nat → List IV) (R : Run) (nt : Nat) (b : IRD) (Q : Ex → Sl → Heap → Nat → Its → Prop) : Ex → Sl → Heap → Nat → Its → Prop
  | .normal,σ,hp,ct,its=>wpDσ G R nt b σ hp ct its Q
  | ex,σ,hp,ct,its=>Q ex σ hp ct its
def blkD (id : Nat) (Q : Ex → Sl → Heap → Nat → Its → Prop) : Ex → Sl → Heap → Nat → Its → Prop
  | .exit i,σ,hp,ct,its=>Q (if i = id then .normal else .exit i) σ hp ct its
  | ex,σ,hp,ct,its=>Q ex σ hp ct its
def againD (I : Nat → Sl → Heap → Nat → Its → Prop) (m : Nat) (Q : Ex → Sl → Heap → Nat → Its → Prop) : Ex → Sl → Heap → Nat → Its → Prop
  | .normal,σ,hp,ct,its=>∃ m',m' < m ∧ I m' σ hp ct its
  | ex,σ,hp,ct,its=>Q ex σ hp ct its

theorem dw_mono {c : IRD} {Q Q' : Ex → Sl → Heap → Nat → Its → Prop} (hQ : ∀ e σ hp ct its,Q e σ hp ct its → Q' e σ hp ct its) (h : wpDσ G R nt c σ hp ct its Q) : wpDσ G R nt c σ hp ct its Q' :=
 wpD_mono _ _ _ _ _ (fun e s its ⟨σ',hp',ct',h1,h2⟩=>⟨σ',hp',ct',h1,hQ _ _ _ _ _ h2⟩) h
theorem dw_base {x : IR} {Q : Ex → Sl → Heap → Nat → Its → Prop} (h : wpE G R nt x σ hp ct fun ex σ hp ct=>Q ex σ hp ct its) : wpDσ G R nt (.base x) σ hp ct its Q:=by
 obtain ⟨n,ex,σ',hp',ct',h1,h2⟩:=h;exact ⟨n,ex,_,h1,σ',hp',ct',rfl,h2⟩
theorem dw_seq {a b : IRD} {Q : Ex → Sl → Heap → Nat → Its → Prop} (h : wpDσ G R nt a σ hp ct its (thenD G R nt b Q)) : wpDσ G R nt (.seq a b) σ hp ct its Q:=by
 refine wpD_mono a _ _ _ _ (fun e s its q=>?_) h;obtain ⟨σ',hp',ct',rfl,q⟩:=q;cases e
 ·exact q
 all_goals exact ⟨σ',hp',ct',rfl,q⟩
theorem dw_block {id : Nat} {a : IRD} {Q : Ex → Sl → Heap → Nat → Its → Prop} (h : wpDσ G R nt a σ hp ct its (blkD id Q)) : wpDσ G R nt (.block id a) σ hp ct its Q:=by
 refine wpD_mono a _ _ _ _ (fun e s its q=>?_) h;obtain ⟨σ',hp',ct',rfl,q⟩:=q;cases e
 all_goals exact ⟨σ',hp',ct',rfl,q⟩
theorem dw_loop {a : IRD} {Q : Ex → Sl → Heap → Nat → Its → Prop} (I : Nat → Sl → Heap → Nat → Its → Prop) (m : Nat) (h0 : I m σ hp ct its) (hs : ∀ m σ hp ct its,I m σ hp ct its → wpDσ G R nt a σ hp ct its (againD I m Q)) : wpDσ G R nt (.loop a) σ hp ct its Q:=by
 intro L hL;have key : ∀ (m : Nat) (σ : Sl) (hp : Heap) (ct : Nat) (its : Its),I m σ hp ct its → L (mkS nt σ hp ct) its:=by
  intro m;induction m using Nat.strongRecOn with
  | _ m ih =>
   intro σ hp ct its hI;refine hL _ _ (wpD_mono _ _ _ _ _ (fun e s its q=>?_) (hs m σ hp ct its hI));obtain ⟨σ',hp',ct',rfl,q⟩:=q;cases e with
   | normal =>
    obtain ⟨m',hlt,hI'⟩:=q;exact ih m' hlt _ _ _ _ hI'
   | _=>exact ⟨σ',hp',ct',rfl,q⟩
 exact key m σ hp ct its h0

def wpDLσ (G : Nat → List IV) (R : Run) (nt : Nat) (l : List DIns) (σ : Sl) (hp : Heap) (ct : Nat) (its : Its) (Q : Sl → Heap → Nat → Its → Prop) : Prop :=
  wpDL G R l (mkS nt σ hp ct) its fun s its=>∃ σ' hp' ct',s = mkS nt σ' hp' ct' ∧ Q σ' hp' ct' its
theorem dw_reg {l : List DIns} {Q : Ex → Sl → Heap → Nat → Its → Prop} (h : wpDLσ G R nt l σ hp ct its (Q .normal)) : wpDσ G R nt (.reg l) σ hp ct its Q:=h
theorem dw_nil {Q : Sl → Heap → Nat → Its → Prop} (h : Q σ hp ct its) : wpDLσ G R nt [] σ hp ct its Q:=⟨σ,hp,ct,rfl,h⟩
theorem put_mk (d : Option Nat) (v : AV) : (mkS nt σ hp ct).put d v = mkS nt (updO σ d v) hp ct:=with_mk (hp:=hp) (ct:=ct) (nt:=nt) (σ:=σ) d (v,hp,ct)
theorem dw_ins {x : Ins} {l : List DIns} {Q : Sl → Heap → Nat → Its → Prop} (h : wpX G R nt [x] σ hp ct fun σ hp ct=>wpDLσ G R nt l σ hp ct its Q) : wpDLσ G R nt (.ins x :: l) σ hp ct its Q:=by
 obtain ⟨σ',hp',ct',h1,h2⟩:=h;simp only [insL] at h1;split at h1
 ·rename_i s1 hs1
  simp only [Option.some.injEq] at h1;subst h1;exact ⟨_,hs1,h2⟩
 ·simp at h1
theorem dw_rng {d : Nat} {x : Opd} {l : List DIns} {Q : Sl → Heap → Nat → Its → Prop} {b g k : Nat} {es : List Ent} (h1 : evσ nt σ x = .v (.c (.r (.map b g)))) (h2 : hp.mapAt b g = some (es,k))
  (h : ∀ c,itAt its c = none → wpDLσ G R nt l (upd σ d (V (.gp c 0))) hp ct ((c,⟨b,g,k,[],k⟩) :: its) Q) : wpDLσ G R nt (.rng d x :: l) σ hp ct its Q :=
 ⟨b,g,es,k,by rw [ev_mk]; exact h1,h2,fun c hc=>by rw [put_mk]; exact h c hc⟩
theorem dw_nx {d : Nat} {x : Opd} {l : List DIns} {Q : Sl → Heap → Nat → Its → Prop} {c k : Nat} {t : MIt} {es : List Ent} (h1 : evσ nt σ x = V (.gp c 0)) (h2 : itAt its c = some t) (h3 : hp.mapAt t.b t.g = some (es,k)) (h4 : ∀ e ∈ es,e.born < t.since) (h5 : t.since ≤ t.stepped)
  (hN : (∀ e ∈ es,e.born ∈ t.seen) → wpDLσ G R nt l (upd σ d (.tup [.c (I (.bool false))])) hp ct its Q)
  (hE : ∀ e ∈ es,e.born ∉ t.seen → wpDLσ G R nt l (upd σ d (.tup [.c (I (.bool true)),e.key,e.val])) hp ct (itSet its c ⟨t.b,t.g,t.since,t.seen ++ [e.born],k⟩) Q) : wpDLσ G R nt (.nx d x :: l) σ hp ct its Q :=
 ⟨c,t,es,k,by rw [ev_mk]; exact h1,h2,h3,h4,h5,fun q=>by rw [put_mk]; exact hN q,fun e he q=>by rw [put_mk]; exact hE e he q⟩
theorem dw_ent {d : Nat} {x : Opd} {l : List DIns} {Q : Sl → Heap → Nat → Its → Prop} {c k : Nat} {t : MIt} {es : List Ent} {e : Ent} {sn : List Nat} (h1 : evσ nt σ x = V (.gp c 0)) (h2 : itAt its c = some t) (h3 : hp.mapAt t.b t.g = some (es,k)) (h4 : t.stepped = k) (h5 : e ∈ es) (h6 : t.seen = sn ++ [e.born]) (h7 : (es.map (·.born)).Nodup)
  (h : wpDLσ G R nt l (upd σ d (.tup [e.key,e.val])) hp ct its Q) : wpDLσ G R nt (.ent d x :: l) σ hp ct its Q :=
 ⟨c,t,es,k,e,sn,by rw [ev_mk]; exact h1,h2,h3,h4,h5,h6,h7,by rw [put_mk]; exact h⟩

theorem dw_mv {b c t g k : Nat} {es : List Ent} {l : List DIns} {Q : Sl → Heap → Nat → Its → Prop} (h1 : σ t = .v (.c (.r (.map b g)))) (ht : t < nt) (h2 : hp.get b = some (.map g es k)) (h3 : b ≠ c) (h4 : b < PB)
  (h : wpDLσ G R nt l (upd σ t (.v (.c (.r (.map c ct))))) ((hp.del b).set c (.map ct es k)) (ct + 1) its Q) : wpDLσ G R nt (.mv b c t :: l) σ hp ct its Q:=by
 refine ⟨g,es,k,by rw [get_mk,if_pos ht]; exact h1,h2,h3,h4,?_⟩;have e : (mkS nt σ hp ct).mvm b c t es k = mkS nt (upd σ t (.v (.c (.r (.map c ct))))) ((hp.del b).set c (.map ct es k)) (ct + 1):=by
  have:=with_mk (nt:=nt) (σ:=σ) (hp:=hp) (ct:=ct) (some t) (.v (.c (.r (.map c ct))),(hp.del b).set c (.map ct es k),ct + 1)
  exact this
 rw [e];exact h

theorem fnD_wp {D : Nat → Option FnD} {f : Nat} {fd : FnD} (hf : D f = some fd) {args rs : List A1} (hn : args.length ≤ fd.nt)
  (h : wpDσ G R fd.nt fd.body (ini args) [] 1 [] fun ex σ hp _ _=>match ex with
   | .exit _=>False
   | _=>traverse (readRσ fd.nt σ hp) fd.res = some rs) : demR G R D f args [] = some (rs,[]):=by
 refine demR_of hf ?_
 have e:=start_mk fd.fn args [] hn
 rw [e]
 refine wpD_mono _ _ _ _ _ (fun ex s its q=>?_) h
 obtain ⟨σ',hp',ct',rfl,q⟩:=q
 have hr : traverse (readRσ fd.nt σ' hp') fd.res = some rs → traverse (readRes (mkS fd.nt σ' hp' ct')) fd.res = some rs:=fun e=>by
  rw [← e]; exact traverse_congr fun x _=>readRes_mk x
 cases ex with
 | exit i=>exact q
 | normal=>exact hr q
 | ret=>exact hr q
end
end Go.Abs

namespace Go.Abs
section
variable {G : Nat → List IV} {F : Nat → Option Fn} {A B : Run}
theorem lim_xU [h : Up A B] {f : Nat} (hf : F f = none) (args : List A1) (bs : List Blk) {r : List A1 × Heap} (e : A f args bs = some r) : lim G F B f args bs = some r:=lim_up hf e
theorem run_monoX (hX : A.le B) {n : Nat} : ∀ d,(run G F A n d).le (run G F B n d)
 | 0=>fun f args bs r h=>by simp [run] at h
 | d + 1=>fun f args bs r h=>by
  simp only [run] at h ⊢
  split at h
  ·exact hX _ _ _ _ h
  ·rename_i fn hf
   split at h
   ·simp at h
   ·rename_i ex s1 hne h1
    rw [exec_mono (run_monoX hX d) (Nat.le_refl n) h1]
    cases ex with
    | exit i=>exact absurd rfl (hne i)
    | normal=>exact h
    | ret=>exact h
   ·simp at h
theorem lim_le (hX : A.le B) : (lim G F A).le (lim G F B):=fun f args bs r h=>by
 obtain ⟨n,d,h⟩:=lim_ex h
 exact lim_of (run_monoX hX d _ _ _ _ h)
theorem pc_le {R R' : Run} (h : R.le R') {f : Nat} {as : List A1} {fr : Bool} {P : List A1 → Prop} (k : pc R f as fr P) : pc R' f as fr P:=fun lent hl=>by
 obtain ⟨vs,h1,h2⟩:=k lent hl
 refine ⟨vs,?_,h2⟩
 unfold pureCall at h1 ⊢
 split at h1
 ·rename_i rs hh e
  rw [h _ _ _ _ e]
  exact h1
 ·simp at h1
theorem pc_trueU [h : Up A B] {f n d : Nat} {as : List A1} {fr : Bool} (e : isTrue1 (run G F A n d f as []) = true) : pc (lim G F B) f as fr (fun vs=>vs = [.c (I (.bool true))]):=pc_le (lim_le h.le) (pc_true e)
theorem pc_dem {R : Run} {f : Nat} {as rs : List A1} {P : List A1 → Prop} (e : R f as [] = some (rs,[])) (hb : ∀ lent,traverse (back1 [] [] lent) rs = some rs) (hP : P rs) : pc R f as true P:=fun lent _ =>
 ⟨rs,by unfold pureCall; rw [e]; exact hb lent,hP⟩
end

def lv (ws : List (List UInt8)) : IV:=.lit 0 (ws.map .str) ws.length
theorem rows_str {f : Bool} : ∀ {l : List (List UInt8)} {c : List IV},rows Rep.str f c l → c = l.map .str
 | [],c,h=>h
 | x :: l,c,h=>by
  obtain ⟨a,b,rfl,h1,h2⟩:=h
  have h1 : a = [.str x]:=h1
  rw [rows_str h2,h1]
  rfl
theorem str_rows (f : Bool) : ∀ l : List (List UInt8),rows Rep.str f (l.map .str) l
 | []=>rfl
 | x :: l=>⟨[.str x],l.map .str,rfl,rfl,str_rows f l⟩
theorem sv_lv (f : Bool) (ws : List (List UInt8)) : sv Rep.str f (lv ws) ws:=.inr (.inr ⟨0,_,rfl,str_rows f _,fun _=>rfl⟩)
theorem lv_of {v : IV} {ws : List (List UInt8)} (h : sv Rep.str true v ws) (hne : ws ≠ []) : v = lv ws:=by
 rcases h with ⟨_,rfl⟩ | ⟨_,rfl⟩ | ⟨t,c,rfl,h1,h2⟩
 ·exact absurd rfl hne
 ·exact absurd rfl hne
 ·rw [rows_str h1,h2 rfl]
  rfl

section
variable {κ β : Type} [D : DecidableEq κ] {K : SK κ} {iv : β → IV}
theorem mget_mput {m : List (κ × β)} {k q : κ} {v : β} : mget (mput m k v) q = if k = q then some v else mget m q:=by
 induction m with
 | nil=>simp only [mput,mget]
 | cons p m ih =>
  obtain ⟨a,b⟩:=p;simp only [mput];by_cases h : a = k
  ·subst h
   simp only [if_true,mget];split <;> rfl
  ·simp only [h,if_false,mget,ih]
   by_cases h2 : a = q
   ·subst h2
    have : ¬ k = a:=fun e=>h e.symm;simp [this]
   ·simp only [h2,if_false]
theorem mput_fst {m : List (κ × β)} {k : κ} {v : β} (h : (m.map Prod.fst).Nodup) : ((mput m k v).map Prod.fst).Nodup:=by
 have key : ∀ (m : List (κ × β)) (a : κ),a ∈ (mput m k v).map Prod.fst → a ∈ m.map Prod.fst ∨ a = k:=by
  intro m;induction m with
  | nil=>intro a h; simp [mput] at h; exact .inr h
  | cons p m ih =>
   intro a h;obtain ⟨x,y⟩:=p;simp only [mput] at h;split at h
   ·rename_i e
    simp only [List.map_cons,List.mem_cons] at h ⊢;rcases h with h | h
    ·exact .inr h
    ·exact .inl (.inr h)
   ·simp only [List.map_cons,List.mem_cons] at h ⊢
    rcases h with h | h
    ·exact .inl (.inl h)
    ·rcases ih a h with h | h
     ·exact .inl (.inr h)
     ·exact .inr h
 induction m with
 | nil=>simp [mput]
 | cons p m ih =>
  obtain ⟨a,b⟩:=p;simp only [List.map_cons,List.nodup_cons] at h;simp only [mput];split
  ·rename_i e
   subst e;simp only [List.map_cons,List.nodup_cons];exact h
  ·rename_i e
   simp only [List.map_cons,List.nodup_cons];refine ⟨fun q=>?_,ih h.2⟩;rcases key m a q with q | q
   ·exact h.1 q
   ·exact e q
theorem mget_mem {m : List (κ × β)} (h : (m.map Prod.fst).Nodup) {k : κ} {v : β} : mget m k = some v ↔ (k,v) ∈ m:=by
 induction m with
 | nil=>simp [mget]
 | cons p m ih =>
  obtain ⟨a,b⟩:=p;simp only [List.map_cons,List.nodup_cons] at h;simp only [mget,List.mem_cons,Prod.mk.injEq];split
  ·rename_i e
   subst e;constructor
   ·intro q; exact .inl ⟨rfl,(Option.some.inj q).symm⟩
   ·rintro (⟨_,rfl⟩ | q)
    ·rfl
    ·exact absurd (List.mem_map_of_mem (f:=Prod.fst) q) h.1
  ·rename_i e
   rw [ih h.2];constructor
   ·exact .inr
   ·rintro (⟨rfl,_⟩ | q)
    ·exact absurd rfl e
    ·exact q

structure mpb (b g : Nat) (es : List Ent) (clk : Nat) (K : SK κ) (iv : β → IV) (hp : Heap) (m : List (κ × β)) : Prop where
  get : hp.get b = some (.map g es clk)
  ents : EntsOk K iv es m
  born : ∀ e ∈ es,e.born < clk
  nodup : (es.map (·.born)).Nodup
  keys : (m.map Prod.fst).Nodup
def mpB (b : Nat) (K : SK κ) (iv : β → IV) (hp : Heap) (a : AC) (m : List (κ × β)) : Prop:=∃ g es clk,a = .r (.map b g) ∧ mpb b g es clk K iv hp m
omit D in
theorem mpb.fr {b g clk : Nat} {es : List Ent} {hp hp' : Heap} {m : List (κ × β)} {P : List Nat} (h : mpb b g es clk K iv hp m) (k : Fr P hp hp') (hb : P.contains b = false) : mpb b g es clk K iv hp' m :=
 ⟨(k b (by simpa using hb)).trans h.get,h.ents,h.born,h.nodup,h.keys⟩
omit D in
theorem mpB.fr {b : Nat} {hp hp' : Heap} {a : AC} {m : List (κ × β)} {P : List Nat} (h : mpB b K iv hp a m) (k : Fr P hp hp') (hb : P.contains b = false) : mpB b K iv hp' a m:=by
 obtain ⟨g,es,clk,h1,h2⟩:=h;exact ⟨g,es,clk,h1,h2.fr k hb⟩
omit D in
theorem mpB.mp {b : Nat} {hp : Heap} {a : AC} {m : List (κ × β)} (h : mpB b K iv hp a m) : mp [b] K iv hp a m:=by
 obtain ⟨g,es,clk,h1,h2⟩:=h;exact ⟨b,g,es,clk,by simp,h1,h2.get,h2.ents⟩
theorem setEnt_born (k : A1) (v : A1) : ∀ es : List Ent,(setEnt k v es).map (·.born) = es.map (·.born)
 | []=>rfl
 | e :: es=>by
  simp only [setEnt]
  split <;> simp [setEnt_born k v es]
end

section
variable {κ β : Type} [D : DecidableEq κ] {K : SK κ} {iv : β → IV} {nt : Nat} {σ : Sl} {hp : Heap} {ct d : Nat} {G : Nat → List IV} {R : Run} {Q : Sl → Heap → Nat → Prop} {l : List Ins} {a : AC} {m : List (κ × β)} {x ko vo : Opd}
omit D in
theorem k_mkmapB (K : SK κ) (iv : β → IV) (nx : ∀ a hp' ct',mpB d K iv hp' a ([] : List (κ × β)) → Fr [d] hp hp' → wpL G R nt l Q (upd σ d (.v (.c a))) hp' ct') : wpL G R nt (.op (some d) none .mkmap :: l) Q σ hp ct:=by
 refine k_op (v:=.v (.c (.r (.map d ct)))) (hp':=hp.set d (.map ct [] 0)) (ct':=ct + 1) ?_ (nx _ _ _ ⟨ct,[],0,rfl,by simp [Heap.get_set],.nil,by simp,by simp,by simp⟩ fun b hb=>?_)
 ·simp only [opK,step,mkS_hp,mkS_ct,Option.getD_some]
 ·simp at hb; rw [Heap.get_set,if_neg hb]
theorem k_lkpZ {P : List Nat} {zero : IV} {key : κ} (hx : evσ nt σ x = .v (.c a)) (hm : mp P K iv hp a m) (hk : evσ nt σ ko = .v (K.a1 key))
  (nx : wpL G R nt l Q (upd σ d (.tup [.c (I ((mget m key).elim zero iv)),.c (I (.bool (mget m key).isSome))])) hp ct) : wpL G R nt (.op (some d) none (.lkp K.kt [zero] false true x ko) :: l) Q σ hp ct:=by
 obtain ⟨b,g,es,clk,h1,rfl,h3,h4⟩:=hm;refine k_op (v:=.tup [.c (I ((mget m key).elim zero iv)),.c (I (.bool (mget m key).isSome))]) (hp':=hp) (ct':=ct) ?_ nx;simp only [opK,step,ev_mk,hx,hk,K.plain,mkS_hp,mkS_ct,mapAt_of h3,h4.find];cases mget m key <;> simp [mk1]
theorem k_mupdB {b : Nat} {key : κ} {val : β} (hx : evσ nt σ x = .v (.c a)) (hm : mpB b K iv hp a m) (hk : evσ nt σ ko = .v (K.a1 key)) (hv : evσ nt σ vo = V (iv val))
  (nx : ∀ hp',mpB b K iv hp' a (mput m key val) → Fr [b] hp hp' → wpL G R nt l Q σ hp' ct) : wpL G R nt (.op none none (.mupd K.kt x ko vo) :: l) Q σ hp ct:=by
 obtain ⟨g,es,clk,rfl,h3,h4,h5,h6,h7⟩:=hm;have hf : ∀ y,Fr [b] hp (hp.set b y):=fun y c hc=>by rw [Heap.get_set,if_neg (fun e=>hc (by rw [e]; simp))]
 cases hg : mget m key with
 | none =>
  refine k_op (dd:=none) (hp':=hp.set b (.map g (es ++ [⟨K.a1 key,.c (I (iv val)),clk⟩]) (clk + 1))) (ct':=ct) (v:=.und) ?_ (nx _ ⟨g,_,_,rfl,by rw [Heap.get_set,if_pos rfl],?_,?_,?_,mput_fst h7⟩ (hf _))
  ·have e3 : ev (mkS nt σ hp ct) vo = V (iv val):=by rw [ev_mk,hv]
   simp only [opK,step,ev_mk,hx,hk,K.plain,mkS_hp,mkS_ct,mapAt_of h3,h4.find,hg,hv,V]; rfl
  ·rw [mput_new hg]; exact All2.append h4 (.cons ⟨rfl,rfl⟩ .nil)
  ·intro e he
   rcases List.mem_append.1 he with he | he
   ·have:=h5 e he; omega
   ·simp at he; subst he; exact Nat.lt_succ_self _
  ·rw [List.map_append,List.nodup_append]
   refine ⟨h6,by simp,fun p hp q hq=>?_⟩;obtain ⟨e,he,rfl⟩:=List.mem_map.1 hp;simp at hq;subst hq
   have:=h5 e he
   omega
 | some w =>
  refine k_op (dd:=none) (hp':=hp.set b (.map g (setEnt (K.a1 key) (.c (I (iv val))) es) clk)) (ct':=ct) (v:=.und) ?_ (nx _ ⟨g,_,_,rfl,by rw [Heap.get_set,if_pos rfl],h4.set key val (by rw [hg]; rfl),?_,by rw [setEnt_born]; exact h6,mput_fst h7⟩ (hf _))
  ·simp only [opK,step,ev_mk,hx,hk,K.plain,mkS_hp,mkS_ct,mapAt_of h3,h4.find,hg,hv,V]; rfl
  ·intro e he
   have : e.born ∈ (setEnt (K.a1 key) (.c (I (iv val))) es).map (·.born):=List.mem_map_of_mem he;rw [setEnt_born] at this;obtain ⟨e2,he2,hb⟩:=List.mem_map.1 this
   have:=h5 e2 he2
   omega
end

def unseen (es : List Ent) (seen : List Nat) : Nat:=(es.filter fun e=>!seen.contains e.born).length
theorem unseen_lt {es : List Ent} {seen : List Nat} {e : Ent} (he : e ∈ es) (hn : e.born ∉ seen) : unseen es (seen ++ [e.born]) < unseen es seen:=by
 unfold unseen;have h1 : (es.filter fun x=>!(seen ++ [e.born]).contains x.born) = (es.filter fun x=>!seen.contains x.born).filter fun x=>!(x.born == e.born):=by
  rw [List.filter_filter];congr 1;funext x;simp only [List.contains_eq_mem,List.mem_append,List.mem_singleton,Bool.decide_or,Bool.not_or];by_cases h : x.born = e.born <;> simp [h,Bool.and_comm]
 rw [h1];exact List.length_filter_lt_length_iff_exists.2 ⟨e,by simp [he,hn],by simp⟩
def metP {κ β : Type} (es : List Ent) (m : List (κ × β)) (seen : List Nat) (p : κ × β) : Prop:=∃ (i : Nat) (e : Ent),es[i]? = some e ∧ m[i]? = some p ∧ e.born ∈ seen
theorem met_nil {κ β : Type} {es : List Ent} {m : List (κ × β)} {p : κ × β} : ¬ metP es m [] p:=fun ⟨_,_,_,_,h⟩=>by simp at h
theorem met_all {κ β : Type} {es : List Ent} {m : List (κ × β)} {seen : List Nat} (hl : es.length = m.length) (h : ∀ e ∈ es,e.born ∈ seen) (p : κ × β) : metP es m seen p ↔ p ∈ m:=by
 constructor
 ·rintro ⟨i,e,_,h2,_⟩; exact List.mem_of_getElem? h2
 ·intro hp
  obtain ⟨i,hi,rfl⟩:=List.getElem_of_mem hp;have hi2 : i < es.length:=by omega
  exact ⟨i,es[i],by simp [hi2],by simp [hi],h _ (List.getElem_mem _)⟩
theorem met_add {κ β : Type} {es : List Ent} {m : List (κ × β)} {seen : List Nat} {j : Nat} {e : Ent} {p0 : κ × β} (hn : (es.map (·.born)).Nodup) (he : es[j]? = some e) (hm : m[j]? = some p0) (p : κ × β) : metP es m (seen ++ [e.born]) p ↔ metP es m seen p ∨ p = p0:=by
 constructor
 ·rintro ⟨i,e2,h1,h2,h3⟩
  rcases List.mem_append.1 h3 with h3 | h3
  ·exact .inl ⟨i,e2,h1,h2,h3⟩
  ·refine .inr ?_
   have hb : e2.born = e.born:=by simpa using h3
   have : i = j:=by
    have hi:=(List.getElem?_eq_some_iff.1 h1);have hj:=(List.getElem?_eq_some_iff.1 he);obtain ⟨i1,i2⟩:=hi;obtain ⟨j1,j2⟩:=hj;rcases Nat.lt_trichotomy i j with q | q | q
    ·have w:=List.pairwise_iff_getElem.1 hn i j (by simpa using i1) (by simpa using j1) q
     simp only [List.getElem_map,i2,j2] at w;exact absurd hb w
    ·exact q
    ·have w:=List.pairwise_iff_getElem.1 hn j i (by simpa using j1) (by simpa using i1) q
     simp only [List.getElem_map,i2,j2] at w;exact absurd hb.symm w
   subst this;rw [hm] at h2;exact (Option.some.inj h2).symm
 ·rintro (⟨i,e2,h1,h2,h3⟩ | rfl)
  ·exact ⟨i,e2,h1,h2,List.mem_append_left _ h3⟩
  ·exact ⟨j,e,he,hm,by simp⟩
end Go.Abs
