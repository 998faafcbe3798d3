/-
  Typed data beside the abstract machine: slices, calls, loops, results, as rules.
-/
import Derived.Test.YtameabpbghichaaGreatDoorHM4Absb
import Derived.Sort.Grow
import Derived.Lib.SlicesCompact
import Derived.Lib.Bytealg
import Derived.Lib.SlTrimSet
import Derived.Lib.Atoi
import Derived.Lib.Repeat
import Derived.Lib.DecodeN
import Derived.Lib.IndexMore
import Derived.Lib.ValidU
import Derived.Lib.LaidTab
import Derived.Laws.Externs
import Derived.Below
import Derived.Maps.RangeRun
namespace Go.Abs
def ep(P:List Nat)(G:Nat→List IV)(hp:Heap)(p:AC)(cells:List AC):Prop :=
  (∃ rest,lookAt G hp p=some (cells++rest))∧((∃ b g off,b∈P∧p=.r (.ptr b g off))∨∃ v,p=I v)
def eo{α:Type}(P:List Nat)(R:Rep α)(f:Bool)(hp:Heap)(a:AC)(l:List α)(p:AC)(n:Nat):Prop :=
  ∃ (b g off:Nat) (cs c:List IV),b∈P∧a=.r (.sl b g off R.sz l.length)∧p=.r (.ptr b g (off+n))∧hp.row b g=some (cs.map I)∧rows R f c l∧off+l.length*R.sz≤cs.length∧(cs.drop off).take (l.length*R.sz)=c
inductive Bnd(nt:Nat)(σ:Sl)(z:Int):Option Opd→Int→Prop
  |none:Bnd nt σ z none z
  |some {o:Opd} {k:IntKind} {m:Int} (h:evσ nt σ o=V (.int k m)):Bnd nt σ z (some o) m
inductive ArgsP(nt:Nat)(σ:Sl)(hp:Heap)(ids:List Nat):List Opd→List A1→List A1→Prop
  |nil:ArgsP nt σ hp ids [] [] []
  |cons {x:Opd} {a a':A1} {l:List Opd} {as as':List A1} (h:evσ nt σ x=.v a) (t:to1 true hp ids a=some a') (r:ArgsP nt σ hp ids l as as'):ArgsP nt σ hp ids (x::l) (a::as) (a'::as')
inductive PartsP(nt:Nat)(σ:Sl):List (Nat×Opd)→List (Nat×A1)→Prop
  |nil:PartsP nt σ [] []
  |cons {i:Nat} {x:Opd} {a:A1} {l:List (Nat×Opd)} {as:List (Nat×A1)} (h:evσ nt σ x=.v a) (r:PartsP nt σ l as):PartsP nt σ ((i,x)::l) ((i,a)::as)
inductive BackP(hp:Heap)(pl:List (Nat×Nat×Nat))(lent:Bool):List AC→List IV→Prop
  |nil:BackP hp pl lent [] []
  |cons {c:AC} {v:IV} {cs:List AC} {vs:List IV} (h:backC hp pl lent c=some (I v)) (r:BackP hp pl lent cs vs):BackP hp pl lent (c::cs) (v::vs)
inductive ResP(nt:Nat)(σ:Sl)(hp:Heap)(pl:List (Nat×Nat×Nat))(lent:Bool):List Res→List A1→Prop
  |nil:ResP nt σ hp pl lent [] []
  |tmp {t:Nat} {a a':A1} {l:List Res} {vs:List A1} (h:evσ nt σ (.t t)=.v a) (b:back1 hp pl lent a=some a') (r:ResP nt σ hp pl lent l vs):ResP nt σ hp pl lent (.tmp t::l) (a'::vs)
  |cell {t b g off n:Nat} {agg:Bool} {cs:List AC} {a a':A1} {l:List Res} {vs:List A1} (h:evσ nt σ (.t t)=.v (.c (.r (.ptr b g off)))) (hb:hp.get b=some (.cells g cs)) (hl:ldc n agg off cs=some a)
      (k:back1 hp pl lent a=some a') (r:ResP nt σ hp pl lent l vs):ResP nt σ hp pl lent (.cell t n agg::l) (a'::vs)
theorem ArgsP.ev{nt:Nat}{σ:Sl}{hp:Heap}{ids:List Nat}{l:List Opd}{as as':List A1}(h:ArgsP nt σ hp ids l as as'):traverse (fun o=>(evσ nt σ o).one) l=some as∧traverse (to1 true hp ids) as=some as':=by
 induction h with
 |nil=>exact ⟨rfl,rfl⟩
 |cons h t _ ih=>exact ⟨by rw[traverse_cons,h,ih.1];rfl,by rw[traverse_cons,t,ih.2]⟩
theorem PartsP.ev{nt:Nat}{σ:Sl}{l:List (Nat×Opd)}{as:List (Nat×A1)}(h:PartsP nt σ l as):traverse (fun p:Nat×Opd=>(evσ nt σ p.2).one.map fun a=>(p.1,a)) l=some as:=by
 induction h with
 |nil=>rfl
 |cons h _ ih=>rw[traverse_cons,h,ih];rfl
theorem BackP.ev{hp:Heap}{pl:List (Nat×Nat×Nat)}{lent:Bool}{cs:List AC}{vs:List IV}(h:BackP hp pl lent cs vs):traverse (backC hp pl lent) cs=some (vs.map I):=by
 induction h with
 |nil=>rfl
 |cons h _ ih=>rw[traverse_cons,h,ih];rfl
theorem BackP.agg{hp:Heap}{pl:List (Nat×Nat×Nat)}{lent:Bool}{cs:List AC}{vs:List IV}(h:BackP hp pl lent cs vs):back1 hp pl lent (.agg cs)=some (.agg (vs.map I)):=by
 simp only[back1,h.ev,Option.map_some]
theorem back_sc{hp:Heap}{pl:List (Nat×Nat×Nat)}{lent:Bool}{v:IV}(h:v.fresh=true):back1 hp pl lent (.c (I v))=some (.c (I v)):=by
 simp only[back1,backC_inl (fun _=>h),Option.map_some]
theorem back_c{hp:Heap}{pl:List (Nat×Nat×Nat)}{lent:Bool}{a:AC}{v:IV}(h:backC hp pl lent a=some (I v)):back1 hp pl lent (.c a)=some (.c (I v)):=by
 simp only[back1,h,Option.map_some]
theorem ResP.ev{nt:Nat}{σ:Sl}{hp:Heap}{pl:List (Nat×Nat×Nat)}{lent:Bool}{l:List Res}{vs:List A1}(h:ResP nt σ hp pl lent l vs):∃ rs,traverse (readRσ nt σ hp) l=some rs∧traverse (back1 hp pl lent) rs=some vs:=by
 induction h with
 |nil=>exact ⟨[],rfl,rfl⟩
 |tmp h b _ ih =>
  obtain ⟨rs,h1,h2⟩:=ih;exact ⟨_::rs,by rw[traverse_cons,readRσ_tmp,h,h1];rfl,by rw[traverse_cons,b,h2]⟩
 |cell h hb hl k _ ih =>
  obtain ⟨rs,h1,h2⟩:=ih;refine ⟨_::rs,?_,by rw[traverse_cons,k,h2]⟩;rw[traverse_cons,h1];simp only[readRσ,h,row_of hb];unfold ldc at hl;split at hl
  ·rename_i cs' hc;simp only[hc,hl]
  ·simp at hl
def pc(R:Run)(f:Nat)(as:List A1)(fr:Bool)(P:List A1→Prop):Prop:=∀ lent,(lent=true→fr=true)→∃ vs,pureCall R f as lent=some vs∧P vs
def meth(R:Run)(f:Nat)(cells:List IV)(as:List A1)(P:List A1→List IV→Prop):Prop :=
  ∃ rs h cs2 vs cells',R f (.c (.r (.ptr PB 0 0))::as) [.cells 0 (cells.map I)]=some (rs,h)∧h.get PB=some (.cells 0 cs2)∧(∀ b g,traverse (backC h [(PB,b,g)] false) cs2=some (cells'.map I))∧(∀ b g,traverse (back1 h [(PB,b,g)] false) rs=some vs)∧P vs cells'
def fin(lent:Bool)(P:List A1→Prop):List A1→Heap→Prop:=fun rs hp=>∃ vs,traverse (back1 hp [] lent) rs=some vs∧P vs
def finM(P:List A1→List IV→Prop):List A1→Heap→Prop:=fun rs hp =>
  ∃ cs2 vs cells',hp.get PB=some (.cells 0 cs2)∧(∀ b g,traverse (backC hp [(PB,b,g)] false) cs2=some (cells'.map I))∧(∀ b g,traverse (back1 hp [(PB,b,g)] false) rs=some vs)∧P vs cells'
section
variable {nt:Nat} {σ:Sl} {hp:Heap} {ct d:Nat} {G:Nat→List IV} {R:Run} {Q:Sl→Heap→Nat→Prop} {l:List Ins}
theorem k_len{α:Type}{E:Rep α}{P:List Nat}{f:Bool}{x:Opd}{a:AC}{xs:List α}(hx:evσ nt σ x=.v (.c a))(hs:sa P E f hp a xs)(n:wpL G R nt l Q (upd σ d (V (.int .i64 xs.length))) hp ct):wpL G R nt (.op (some d) none (.len 1 x)::l) Q σ hp ct:=by
 refine k_op (v:=V (.int .i64 xs.length)) (hp':=hp) (ct':=ct) ?_ n;rw[x_len,hx];rcases hs with ⟨v,rfl,⟨rfl,rfl⟩|⟨rfl,rfl⟩|⟨t,c,rfl,h1,_⟩⟩|⟨rfl,rfl⟩|⟨rfl,rfl⟩|⟨b,g,off,cs,c,hb,rfl,h2,h3,h4,h5⟩
 ·rfl
 ·rfl
 ·rfl
 ·rfl
 ·rfl
 ·simp only[(Heap.row_eq h2).2,if_true]
theorem drop_at{α:Type}{E:Rep α}{f:Bool}{cs:List IV}{c:List IV}{xs:List α}{off n:Nat}{y:α}(_:rows E f c xs)(_:off+xs.length*E.sz≤cs.length)(h5:(cs.drop off).take (xs.length*E.sz)=c)(hy:xs[n]?=some y) :
  ∃ rest,(cs.map I).drop (off+n*E.sz)=(((c.drop (n*E.sz)).take E.sz).map I)++rest:=by
 obtain ⟨hn,_⟩:=List.getElem?_eq_some_iff.1 hy;have hm:n*E.sz+E.sz≤xs.length*E.sz:=by rw[← Nat.succ_mul];exact Nat.mul_le_mul_right _ hn
 refine ⟨((cs.map I).drop (off+n*E.sz)).drop E.sz,?_⟩;have:((c.drop (n*E.sz)).take E.sz).map I=((cs.map I).drop (off+n*E.sz)).take E.sz:=by
  rw[← h5,List.drop_take,List.take_take,Nat.min_eq_left (by omega),List.drop_drop,List.map_take,List.map_drop]
 rw[this,List.take_append_drop]
theorem k_iadrL{α:Type}{E:Rep α}{P:List Nat}{f:Bool}{sz:Nat}{x i:Opd}{a:AC}{xs:List α}{k:IntKind}{n:Int}{y:α}(hx:evσ nt σ x=.v (.c a))(hs:sa P E f hp a xs)(hi:evσ nt σ i=V (.int k n))(e:idx xs n=some y)(hz:E.sz=sz)
  (nx:∀ p c,ep P G hp p (c.map I)→E.rp f c y→wpL G R nt l Q (upd σ d (.v (.c p))) hp ct):wpL G R nt (.op (some d) none (.iadr sz x i)::l) Q σ hp ct:=by
 subst hz;obtain ⟨h1,h2,h3⟩:=idx_is e;rcases hs with ⟨v,rfl,⟨rfl,rfl⟩|⟨rfl,rfl⟩|⟨t,c,rfl,h4,_⟩⟩|⟨rfl,rfl⟩|⟨rfl,rfl⟩|⟨b,g,off,cs,c,hb,rfl,h4,h5,h6,h7⟩
 ·simp at h2
 ·simp at h2
 ·refine k_op (v:=V (.lp t ((c.drop (n.toNat*E.sz)).take E.sz))) (hp':=hp) (ct':=ct) ?_ (nx _ ((c.drop (n.toNat*E.sz)).take E.sz) ⟨⟨[],?_⟩,.inr ⟨_,rfl⟩⟩ (rows_get h4 h3))
  ·rw[x_iadr,hx,hi]
   simp only[AV.nat,AV.int,V,h1,if_true,h2,rows_len h4,and_self]
  ·simp[lookAt]
 ·simp at h2
 ·simp at h2
 ·obtain ⟨rest,hr⟩:=drop_at h5 h6 h7 h3
  refine k_op (v:=.v (.c (.r (.ptr b g (off+n.toNat*E.sz))))) (hp':=hp) (ct':=ct) ?_ (nx _ _ ⟨⟨rest,?_⟩,.inl ⟨b,g,_,hb,rfl⟩⟩ (rows_get h5 h3))
  ·rw[x_iadr,hx,hi]
   simp only[AV.nat,AV.int,h1,if_true,h2,(Heap.row_eq h4).2,and_self]
  ·simp only[lookAt,h4,hr]
theorem k_fadrL{P:List Nat}{o:Nat}{x:Opd}{p:AC}{cells:List AC}(hx:evσ nt σ x=.v (.c p))(h:ep P G hp p cells)(ho:o≤cells.length)(nx:∀ p',ep P G hp p' (cells.drop o)→wpL G R nt l Q (upd σ d (.v (.c p'))) hp ct):wpL G R nt (.op (some d) none (.fadr o x)::l) Q σ hp ct:=by
 obtain ⟨⟨rest,h1⟩,h2⟩:=h;rcases h2 with ⟨b,g,off,hb,rfl⟩|⟨v,rfl⟩
 ·simp only[lookAt] at h1
  split at h1
  ·rename_i cs hcs
   have h1:=Option.some.inj h1;refine k_op (v:=.v (.c (.r (.ptr b g (off+o))))) (hp':=hp) (ct':=ct) ?_ (nx _ ⟨⟨rest,?_⟩,.inl ⟨b,g,_,hb,rfl⟩⟩)
   ·rw[x_fadr,hx];simp only[(Heap.row_eq hcs).2,if_true]
   ·simp only[lookAt,hcs];rw[← List.drop_drop,h1,List.drop_append_of_le_length ho]
  ·simp at h1
 ·cases v<;>simp[lookAt] at h1
  case lp t cs =>
   refine k_op (v:=V (.lp t (cs.drop o))) (hp':=hp) (ct':=ct) ?_ (nx _ ⟨⟨rest,?_⟩,.inr ⟨_,rfl⟩⟩)
   ·rw[x_fadr,hx]
   ·simp only[lookAt];rw[List.map_drop,h1,List.drop_append_of_le_length ho]
  case gp g off =>
   refine k_op (v:=V (.gp g (off+o))) (hp':=hp) (ct':=ct) ?_ (nx _ ⟨⟨rest,?_⟩,.inr ⟨_,rfl⟩⟩)
   ·rw[x_fadr,hx]
   ·simp only[lookAt]
    rw[← List.drop_drop,List.map_drop,List.map_drop,h1,List.drop_append_of_le_length ho]
theorem k_loadL{P:List Nat}{m:Nat}{agg:Bool}{x:Opd}{p:AC}{cells:List AC}{v:A1}(hx:evσ nt σ x=.v (.c p))(h:ep P G hp p cells)(hv:ldc m agg 0 cells=some v)(n:wpL G R nt l Q (upd σ d (.v v)) hp ct):wpL G R nt (.op (some d) none (.load m agg x)::l) Q σ hp ct:=by
 obtain ⟨⟨rest,h1⟩,h2⟩:=h;refine k_op (v:=.v v) (hp':=hp) (ct':=ct) ?_ n;rw[x_load,hx];simp only[h1];unfold ldc takeN at hv;unfold takeN;simp only[List.drop_zero] at hv;split at hv
 ·rename_i cs hc
  split at hc
  ·rename_i hle
   simp at hc;rw[if_pos (by simp;omega),List.take_append_of_le_length hle,hc];simp only[hv,Option.map_some]
  ·simp at hc
 ·simp at hv
theorem bnd_nat{σ:Sl}{z:Nat}{o:Option Opd}{m:Int}(h:Bnd nt σ z o m)(hm:0≤m):bound z (mkS nt σ hp ct) o=some m.toNat:=by
 cases h with
 |none=>simp[bound]
 |some h=>simp only[bound,ev_mk,h,AV.nat,V,AV.int,hm,if_true]
theorem k_slcT{x:Opd}{lo hi:Option Opd}{a r:List UInt8}{m n:Int}(hx:evσ nt σ x=V (.str a))(h1:Bnd nt σ (0:Nat) lo m)(h2:Bnd nt σ a.length hi n)(e:sub a m n=some r)(nx:wpL G R nt l Q (upd σ d (V (.str r))) hp ct) :
  wpL G R nt (.op (some d) none (.slcS x lo hi)::l) Q σ hp ct:=by
 unfold sub at e;split at e
 ·rename_i hc
  have e:=Option.some.inj e;refine k_op ?_ nx;have e2:m.toNat≤n.toNat∧n.toNat≤a.length:=by omega
  simp only[opK,step,ev_mk,hx,AV.strv,V,bnd_nat h1 hc.1,bnd_nat h2 (Int.le_trans hc.1 hc.2.1),e2,and_self,if_true,okv,Option.map_some,← List.drop_take,e];rfl
 ·simp at e
theorem sub_is{α:Type}{xs r:List α}{m n:Int}(e:sub xs m n=some r):0≤m∧m≤n∧n≤xs.length∧r=(xs.drop m.toNat).take (n.toNat-m.toNat):=by
 unfold sub at e;split at e
 ·rename_i hc
  exact ⟨hc.1,hc.2.1,hc.2.2,by rw[← List.drop_take];exact (Option.some.inj e).symm⟩
 ·simp at e
theorem k_slcO{α:Type}{E:Rep α}{P:List Nat}{f:Bool}{sz:Nat}{x:Opd}{lo hi:Option Opd}{a:AC}{xs r:List α}{m n:Int}(hx:evσ nt σ x=.v (.c a))(hs:so P E f hp a xs)(h1:Bnd nt σ (0:Nat) lo m)(h2:Bnd nt σ xs.length hi n)
  (e:sub xs m n=some r) (hz:E.sz=sz) (nx:∀ a',so P E f hp a' r→wpL G R nt l Q (upd σ d (.v (.c a'))) hp ct):wpL G R nt (.op (some d) none (.slc sz x lo hi none)::l) Q σ hp ct:=by
 subst hz;obtain ⟨c1,c2,c3,rfl⟩:=sub_is e;have b1:=fun hp ct=>bnd_nat (hp:=hp) (ct:=ct) h1 c1;have b2:=fun hp ct=>bnd_nat (hp:=hp) (ct:=ct) h2 (Int.le_trans c1 c2);rcases hs with ⟨rfl,rfl⟩|⟨rfl,rfl⟩|⟨b,g,off,cs,c,hb,rfl,h4,h5,h6,h7⟩
 ·have e1:m=0:=by simp at c3;omega
  have e2:n=0:=by simp at c3;omega
  subst e1;subst e2;refine k_op (v:=V .nilS) (hp':=hp) (ct':=ct) ?_ (nx _ (.inl ⟨rfl,by simp⟩));simp only[opK,step,ev_mk,hx,V,b1,show bound 0 (mkS nt σ hp ct) hi=some 0 from by simpa using b2 hp ct,show bound 0 (mkS nt σ hp ct) none=some 0 from rfl];rfl
 ·have e1:m=0:=by simp at c3;omega
  have e2:n=0:=by simp at c3;omega
  subst e1;subst e2;refine k_op (v:=V .emp) (hp':=hp) (ct':=ct) ?_ (nx _ (.inr (.inl ⟨rfl,by simp⟩)));simp only[opK,step,ev_mk,hx,V,b1,show bound 0 (mkS nt σ hp ct) hi=some 0 from by simpa using b2 hp ct,show bound 0 (mkS nt σ hp ct) none=some 0 from rfl];rfl
 ·have hlen:((xs.drop m.toNat).take (n.toNat-m.toNat)).length=n.toNat-m.toNat:=by simp;omega
  have hle:m.toNat≤n.toNat∧n.toNat≤xs.length:=by omega
  have hmul:m.toNat*E.sz+(n.toNat-m.toNat)*E.sz≤xs.length*E.sz:=by rw[← Nat.add_mul];exact Nat.mul_le_mul_right _ (by omega)
  refine k_op (v:=.v (.c (.r (.sl b g (off+m.toNat*E.sz) E.sz (n.toNat-m.toNat))))) (hp':=hp) (ct':=ct) ?_ (nx _ (.inr (.inr ⟨b,g,off+m.toNat*E.sz,cs,(c.drop (m.toNat*E.sz)).take ((n.toNat-m.toNat)*E.sz),hb,by rw[hlen],h4,(rows_split _ (rows_split _ h5).2).1,?_,?_⟩)))
  ·simp only[opK,step,ev_mk,hx,b1,b2,mkS_hp,mkS_ct,(Heap.row_eq h4).2,hle,and_self,if_true]
  ·rw[hlen];omega
  ·rw[hlen,← h7,List.drop_take,List.take_take,List.drop_drop,Nat.min_eq_left (by omega)]
theorem k_slcA{α:Type}{E:Rep α}{P:List Nat}{f:Bool}{sz:Nat}{x:Opd}{lo hi:Option Opd}{a:AC}{xs r:List α}{m n:Int}(hx:evσ nt σ x=.v (.c a))(hs:sa P E f hp a xs)(h1:Bnd nt σ (0:Nat) lo m)(h2:Bnd nt σ xs.length hi n)
  (e:sub xs m n=some r) (hz:E.sz=sz) (nx:∀ a',sa P E f hp a' r→wpL G R nt l Q (upd σ d (.v (.c a'))) hp ct):wpL G R nt (.op (some d) none (.slc sz x lo hi none)::l) Q σ hp ct:=by
 rcases hs with ⟨v,rfl,⟨rfl,rfl⟩|⟨rfl,rfl⟩|⟨t,c,rfl,h4,h5⟩⟩|hs
 ·exact k_slcO (P:=P) hx (.inl ⟨rfl,rfl⟩) h1 h2 e hz fun a' h=>nx a' h.any
 ·exact k_slcO (P:=P) hx (.inr (.inl ⟨rfl,rfl⟩)) h1 h2 e hz fun a' h=>nx a' h.any
 ·subst hz
  obtain ⟨c1,c2,c3,rfl⟩:=sub_is e;have hlen:((xs.drop m.toNat).take (n.toNat-m.toNat)).length=n.toNat-m.toNat:=by simp;omega
  have hle:m.toNat≤n.toNat∧n.toNat≤xs.length:=by omega
  refine k_op (v:=V (.lit t ((c.drop (m.toNat*E.sz)).take ((n.toNat-m.toNat)*E.sz)) (n.toNat-m.toNat))) (hp':=hp) (ct':=ct) ?_ (nx _ (.inl ⟨_,rfl,.inr (.inr ⟨t,_,by rw[hlen],(rows_split _ (rows_split _ h4).2).1,h5⟩)⟩));simp only[opK,step,ev_mk,hx,bnd_nat h1 c1,bnd_nat h2 (Int.le_trans c1 c2),mkS_hp,mkS_ct,hle,rows_len h4,and_self,if_true]
 ·exact k_slcO hx hs h1 h2 e hz fun a' h=>nx a' h.any
theorem k_app{α:Type}{E:Rep α}{P P':List Nat}{f:Bool}{sz bytes:Nat}{x y:Opd}{a b:AC}{xs ys zs:List α}(hx:evσ nt σ x=.v (.c a))(hs:so P E f hp a xs)(hy:evσ nt σ y=.v (.c b))(ht:sa P' E f hp b ys)(e:app bytes xs ys=some zs)(hz:E.sz=sz)
  (nx:∀ a' hp' ct',so (d::P) E f hp' a' zs→Fr (d::P) hp hp'→wpL G R nt l Q (upd σ d (.v (.c a'))) hp' ct'):wpL G R nt (.op (some d) none (.app sz bytes false x y)::l) Q σ hp ct:=by
 subst hz;unfold app at e;split at e
 ·rename_i hb
  have e:=Option.some.inj e;subst e;have hstr:isStrC b=false:=by
   rcases ht with ⟨v,rfl,⟨rfl,rfl⟩|⟨rfl,rfl⟩|⟨t,c,rfl,h4,h5⟩⟩|⟨rfl,rfl⟩|⟨rfl,rfl⟩|⟨b,g,off,cs,c,hb,rfl,h4⟩<;>rfl
  obtain ⟨c,hc,hcs⟩:=ht.cells;have hcl:=rows_len hc;rcases hs with ⟨rfl,rfl⟩|⟨rfl,rfl⟩|⟨b',g,off,cs,c',hb',rfl,h4,h5,h6,h7⟩
  ·by_cases h0:ys.length=0
   ·obtain rfl:ys=[]:=List.length_eq_zero_iff.1 h0
    refine k_op (v:=V .nilS) (hp':=hp) (ct':=ct) ?_ (nx _ _ _ (.inl ⟨rfl,rfl⟩) (Fr.refl _ _));rw[x_app,hx,hy];simp only[hstr,if_true,hcs];rfl
   ·refine k_op (v:=.v (.c (.r (.sl d ct 0 E.sz ys.length)))) (hp':=hp.set d (.cells ct (c.map I))) (ct':=ct+1) ?_ (nx _ _ _ (.inr (.inr ⟨d,ct,0,c,c,by simp,rfl,by simp[Heap.row,Heap.get_set],hc,by simp[hcl],by rw[List.drop_zero,List.nil_append,← hcl,List.take_of_length_le (by simp)]⟩)) (fun q hq=>by rw[Heap.get_set];simp at hq;simp[hq.1]))
    rw[x_app,hx,hy];simp only[hstr,if_true,hcs,h0,if_false];rw[if_pos (by simpa using hb)];rfl
  ·by_cases h0:ys.length=0
   ·obtain rfl:ys=[]:=List.length_eq_zero_iff.1 h0
    refine k_op (v:=V .emp) (hp':=hp) (ct':=ct) ?_ (nx _ _ _ (.inr (.inl ⟨rfl,rfl⟩)) (Fr.refl _ _));rw[x_app,hx,hy];simp only[hstr,if_true,hcs];rfl
   ·refine k_op (v:=.v (.c (.r (.sl d ct 0 E.sz ys.length)))) (hp':=hp.set d (.cells ct (c.map I))) (ct':=ct+1) ?_ (nx _ _ _ (.inr (.inr ⟨d,ct,0,c,c,by simp,rfl,by simp[Heap.row,Heap.get_set],hc,by simp[hcl],by rw[List.drop_zero,List.nil_append,← hcl,List.take_of_length_le (by simp)]⟩)) (fun q hq=>by rw[Heap.get_set];simp at hq;simp[hq.1]))
    rw[x_app,hx,hy];simp only[hstr,if_true,hcs,h0,if_false];rw[if_pos (by simpa using hb)];rfl
  ·have hcl':=rows_len h5
   have hrow:(cs.map I).take (off+xs.length*E.sz)++c.map I=(cs.take (off+xs.length*E.sz)++c).map I:=by rw[List.map_append,List.map_take]
   refine k_op (v:=.v (.c (.r (.sl b' ct off E.sz (xs.length+ys.length))))) (hp':=hp.set b' (.cells ct ((cs.map I).take (off+xs.length*E.sz)++c.map I))) (ct':=ct+1) ?_ (nx _ _ _ (.inr (.inr ⟨b',ct,off,cs.take (off+xs.length*E.sz)++c,c'++c,by simp[hb'],by simp,by rw[← hrow];simp[Heap.row,Heap.get_set],rows_append hc h5,?_,?_⟩)) (fun q hq=>by rw[Heap.get_set];simp at hq;rw[if_neg];rintro rfl;exact hq.2 hb'))
   ·rw[x_app,hx,hy];simp only[hstr,if_true,hcs,h4,List.length_map]
    rw[if_pos (by simpa using ⟨h6,hb⟩)]
   ·simp[hcl,Nat.add_mul];omega
   ·have e1:(cs.take (off+xs.length*E.sz)).drop off=c':=by rw[← h7,List.drop_take];congr 1;omega
    have hoff:off≤(cs.take (off+xs.length*E.sz)).length:=by simp;omega
    rw[List.drop_append_of_le_length hoff,e1,List.take_of_length_le];simp[hcl,hcl',Nat.add_mul]
 ·simp at e
theorem k_bslL{sz len:Nat}{zero:List IV}{parts:List (Nat×Opd)}{ps:List (Nat×A1)}{vs:List IV}(hp1:PartsP nt σ parts ps)(hb:len*sz≤16777216∧zero.length=sz)(hv:fillS sz (repC len zero) ps=some (vs.map I))(n:wpL G R nt l Q (upd σ d (V (.lit 0 vs len))) hp ct) :
  wpL G R nt (.op (some d) none (.bsl sz len zero parts false)::l) Q σ hp ct :=
 k_op (by rw[x_bsl,hp1.ev];simp only;rw[if_pos hb,hv];simp only[rd_inls,Bool.false_eq_true,if_false]) n
theorem k_build{zero:List IV}{places:List (Nat×Nat)}{parts:List (Nat×Opd)}{ps:List (Nat×A1)}{cs:List AC}(hp1:PartsP nt σ parts ps)(hv:fillP places (zero.map I) ps=some cs)(n:wpL G R nt l Q (upd σ d (.v (.agg cs))) hp ct) :
  wpL G R nt (.op (some d) none (.build zero places parts)::l) Q σ hp ct :=
 k_op (by rw[x_build,hp1.ev];simp only[hv,Option.map_some]) n
theorem k_iadrO{α:Type}{E:Rep α}{P:List Nat}{f:Bool}{sz:Nat}{x i:Opd}{a:AC}{xs:List α}{k:IntKind}{n:Int}(hx:evσ nt σ x=.v (.c a))(hs:so P E f hp a xs)(hi:evσ nt σ i=V (.int k n))(hn:0≤n∧n<xs.length)(hz:E.sz=sz)
  (nx:∀ p,eo P E f hp a xs p (n.toNat*sz)→wpL G R nt l Q (upd σ d (.v (.c p))) hp ct):wpL G R nt (.op (some d) none (.iadr sz x i)::l) Q σ hp ct:=by
 subst hz;rcases hs with ⟨rfl,rfl⟩|⟨rfl,rfl⟩|⟨b,g,off,cs,c,hb,rfl,h4,h5,h6,h7⟩
 ·simp at hn;omega
 ·simp at hn;omega
 ·have h2:n.toNat<xs.length:=by omega
  refine k_op (v:=.v (.c (.r (.ptr b g (off+n.toNat*E.sz))))) (hp':=hp) (ct':=ct) ?_ (nx _ ⟨b,g,off,cs,c,hb,rfl,rfl,h4,h5,h6,h7⟩);rw[x_iadr,hx,hi];simp only[AV.nat,AV.int,hn.1,if_true,h2,(Heap.row_eq h4).2,and_self]
theorem k_fadrO{α:Type}{E:Rep α}{P:List Nat}{f:Bool}{o m:Nat}{x:Opd}{a p:AC}{xs:List α}(hx:evσ nt σ x=.v (.c p))(h:eo P E f hp a xs p m)
  (nx:∀ p',eo P E f hp a xs p' (m+o)→wpL G R nt l Q (upd σ d (.v (.c p'))) hp ct):wpL G R nt (.op (some d) none (.fadr o x)::l) Q σ hp ct:=by
 obtain ⟨b,g,off,cs,c,hb,rfl,rfl,h4,h5⟩:=h;refine k_op (v:=.v (.c (.r (.ptr b g (off+(m+o)))))) (hp':=hp) (ct':=ct) ?_ (nx _ ⟨b,g,off,cs,c,hb,rfl,rfl,h4,h5⟩);rw[x_fadr,hx];simp only[(Heap.row_eq h4).2,if_true,Nat.add_assoc]
theorem lay_in{β:Type}(B W:List β)(N o m sz T:Nat)(h:o+m≤sz)(hN:N+sz≤T)(hT:T≤B.length)(hW:W.length=m) :
  (B.take (N+o)++W++B.drop (N+o+m)).take T=(B.take T).take N++((((B.take T).drop N).take sz).take o++W++(((B.take T).drop N).take sz).drop (o+m))++(B.take T).drop (N+sz):=by
 have e1:(B.take T).take N++(((B.take T).drop N).take sz).take o=B.take (N+o):=by
  rw[List.take_take,List.take_take,Nat.min_eq_left (by omega),Nat.min_eq_left (by omega),List.drop_take,List.take_take,Nat.min_eq_left (by omega),← List.take_add]
 have e2:(((B.take T).drop N).take sz).drop (o+m)++(B.take T).drop (N+sz)=(B.take T).drop (N+o+m):=by
  have:(B.take T).drop (N+o+m)=((B.take T).drop N).drop (o+m):=by rw[List.drop_drop];congr 1;omega
  rw[this];conv=>rhs;rw[← List.take_append_drop sz ((B.take T).drop N)]
  rw[List.drop_append_of_le_length (by simp;omega),List.drop_drop]
 have e3:(B.take (N+o)++W++B.drop (N+o+m)).take T=B.take (N+o)++W++(B.take T).drop (N+o+m):=by
  rw[List.take_append,List.take_of_length_le (by simp;omega),List.drop_take];congr 2;simp;omega
 rw[e3,← e1,← e2];simp
theorem k_storeO{α:Type}{E:Rep α}{P:List Nat}{f:Bool}{m o sz:Nat}{x y:Opd}{a p:AC}{w:A1}{ws:List IV}{xs:List α}{n:Int}{u u':α}(hx:evσ nt σ x=.v (.c p))(h:eo P E f hp a xs p (n.toNat*sz+o))(hy:evσ nt σ y=.v w)(hw:w.cells=ws.map I)(hm:ws.length=m)
  (hu:idx xs n=some u) (ho:o+m≤sz) (hz:E.sz=sz) (hu':∀ c,E.rp f c u→E.rp f (c.take o++ws++c.drop (o+m)) u')
  (nx:∀ hp',so P E f hp' a (xs.set n.toNat u')→Fr P hp hp'→wpL G R nt l Q σ hp' ct):wpL G R nt (.op none none (.store m x y)::l) Q σ hp ct:=by
 subst hz;obtain ⟨h1,h2,h3⟩:=idx_is hu;obtain ⟨b,g,off,cs,c,hb,rfl,rfl,h4,h5,h6,h7⟩:=h;have hrow:=rows_get h5 h3;have hmul:n.toNat*E.sz+E.sz≤xs.length*E.sz:=by rw[← Nat.succ_mul];exact Nat.mul_le_mul_right _ h2
 have hcl:=rows_len h5;generalize hN:n.toNat*E.sz=N at *;have hlay:lay (cs.map I) (off+(N+o)) (ws.map I)=(cs.take (off+(N+o))++ws++cs.drop (off+(N+o)+m)).map I:=by simp[lay,hm]
 refine k_op (v:=.und) (hp':=hp.set b (.cells g (lay (cs.map I) (off+(N+o)) w.cells))) (ct':=ct) ?_ (nx _ (.inr (.inr ⟨b,g,off,cs.take (off+(N+o))++ws++cs.drop (off+(N+o)+m),c.take (n.toNat*E.sz)++((((c.drop (n.toNat*E.sz)).take E.sz).take o)++ws++(((c.drop (n.toNat*E.sz)).take E.sz).drop (o+m)))++c.drop ((n.toNat+1)*E.sz),hb,by simp,by rw[hw,hlay];simp[Heap.row,Heap.get_set],rows_set h5 h2 (hu' _ (by rw[hN];exact hrow)),?_,?_⟩)) (fun q hq=>by rw[Heap.get_set,if_neg];rintro rfl;exact hq hb))
 ·rw[x_store,hx,hy]
  simp only[h4];rw[if_pos (by rw[hw,List.length_map,List.length_map];exact ⟨hm,by omega⟩)]
 ·rw[List.length_set];simp;omega
 ·rw[List.length_set,Nat.succ_mul,hN]
  have e0:(cs.take (off+(N+o))++ws++cs.drop (off+(N+o)+m)).drop off=(cs.drop off).take (N+o)++ws++(cs.drop off).drop (N+o+m):=by
   have q1:off+(N+o)-off=N+o:=by omega
   have q2:off+(N+o)+m=off+(N+o+m):=by omega
   rw[List.append_assoc,List.drop_append_of_le_length (by simp;omega),List.drop_take,List.drop_drop,← List.append_assoc,q1,q2]
  rw[e0,← h7];exact lay_in _ _ N o m E.sz _ ho (by omega) (by simp;omega) hm
theorem k_call{dd:Option Nat}{f:Nat}{args:List Opd}{as as':List A1}{fr:Bool}{P:List A1→Prop}(ha:ArgsP nt σ hp [] args as as')(hc:pc R f as' fr P)(hl:fr=true∨(as.any fun a=>a.cells.any (lentC []))=false)(n:∀ vs,P vs→wpL G R nt l Q (updO σ dd (resV vs)) hp ct) :
  wpL G R nt (.op dd none (.call f args {give:=[],ad:=[],pure:=true})::l) Q σ hp ct:=by
 obtain ⟨vs,h1,h2⟩:=hc (as.any fun a=>a.cells.any (lentC [])) (fun h=>by rcases hl with hl|hl;exact hl;rw[hl] at h;simp at h);exact k_op (opK_pure ha.ev.1 ha.ev.2 h1) (n vs h2)
theorem k_meth{dd:Option Nat}{f b g:Nat}{x:Opd}{args:List Opd}{as as':List A1}{cells:List IV}{P:List A1→List IV→Prop}(hx:evσ nt σ x=.v (.c (.r (.ptr b g 0))))(hb:hp.get b=some (.cells g (cells.map I)))(ha:ArgsP nt σ hp [b] args as as')(hi:as.all A1.inl=true)
  (hc:meth R f (IV.retags 1 cells) as' P) (n:∀ vs cells' hp',P vs cells'→hp'.get b=some (.cells g (cells'.map I))→Fr [b] hp hp'→wpL G R nt l Q (updO σ dd (resV vs)) hp' (ct+1)) :
  wpL G R nt (.op dd none (.call f (x::args) {give:=[],ad:=[],pure:=false})::l) Q σ hp ct:=by
 obtain ⟨rs,h,cs2,vs,cells',h1,h2,h3,h4,h5⟩:=hc;have ht:∀ c:List IV,traverse (toC false hp [b]) (c.map I)=some ((IV.retags 1 c).map I):=by
  intro c;induction c with
  |nil=>rfl
  |cons v c ih=>simp only[List.map_cons,traverse_cons,toC,toR,Option.map_some,ih,IV.retags]
 refine k_op (call_ptr (by rw[traverse_cons,hx,ha.ev.1];rfl) hi ha.ev.2 hb (ht cells) h1 h2 (h3 b g) (h4 b g)) (n vs cells' _ h5 (by rw[Heap.get_set];simp) (Fr.set _ _ _))
end
/- Loops. -/
section
variable {S E:Type}
def loopF(step:S→Option (S⊕E)):Nat→S→Option E
  |0,_=>none
  |n+1,s=>match step s with
    |none=>none
    |some (.inl s')=>loopF step n s'
    |some (.inr e)=>some e
theorem loopF_mono{step:S→Option (S⊕E)}:∀ {n m:Nat} {s:S} {e:E},n≤m→loopF step n s=some e→loopF step m s=some e
 |0,_,_,_,_,h=>by simp[loopF] at h
 |n+1,0,_,_,h,_=>by omega
 |n+1,m+1,s,e,h,k=>by
  simp only[loopF] at k ⊢
  split at k
  ·simp at k
  ·exact loopF_mono (by omega) k
  ·exact k
noncomputable def loopO(step:S→Option (S⊕E))(s:S):Option E :=
  open Classical in if h : ∃ e n,loopF step n s = some e then some h.choose else none
theorem loopO_of{step:S→Option (S⊕E)}{n:Nat}{s:S}{e:E}(h:loopF step n s=some e):loopO step s=some e:=by
 have hex:∃ e n,loopF step n s=some e:=⟨e,n,h⟩;unfold loopO;rw[dif_pos hex];obtain ⟨m,hm⟩:=hex.choose_spec;have h1:=loopF_mono (Nat.le_max_left n m) h;have h2:=loopF_mono (Nat.le_max_right n m) hm;rw[h1] at h2;exact h2.symm
theorem loopO_ex{step:S→Option (S⊕E)}{s:S}{e:E}(h:loopO step s=some e):∃ n,loopF step n s=some e:=by
 unfold loopO at h;split at h
 ·rename_i hex
  have h:=Option.some.inj h;rw[← h];exact hex.choose_spec
 ·simp at h
theorem loopO_eq(step:S→Option (S⊕E))(s:S):loopO step s=match step s with
  |none=>none
  |some (.inl s')=>loopO step s'
  |some (.inr e)=>some e:=by
 apply Option.ext
 intro e
 constructor
 ·intro h
  obtain ⟨n,h⟩:=loopO_ex h
  cases n with
  |zero=>simp[loopF] at h
  |succ n =>
   simp only[loopF] at h
   split at h
   ·simp at h
   ·exact loopO_of h
   ·exact h
 ·intro h
  split at h
  ·simp at h
  ·rename_i s' hs
   obtain ⟨n,h⟩:=loopO_ex h
   exact loopO_of (n:=n+1) (by simp only[loopF,hs];exact h)
  ·rename_i e' hs
   exact loopO_of (n:=1) (by simp only[loopF,hs];exact h)
def lpost(I:S→Sl→Heap→Nat→Prop)(X:E→Ex→Sl→Heap→Nat→Prop):S⊕E→Ex→Sl→Heap→Nat→Prop
  |.inl s,ex,σ,hp,ct=>ex=.normal∧I s σ hp ct
  |.inr e,ex,σ,hp,ct=>ex≠.normal∧X e ex σ hp ct
theorem e_loop{nt:Nat}{σ:Sl}{hp:Heap}{ct:Nat}{G:Nat→List IV}{R:Run}{step:S→Option (S⊕E)}{s0:S}{e:E}{a:IR}(h:loopO step s0=some e)(I:S→Sl→Heap→Nat→Prop)(X:E→Ex→Sl→Heap→Nat→Prop)(h0:I s0 σ hp ct)
  (hs:∀ s o σ hp ct,step s=some o→I s σ hp ct→wpE G R nt a σ hp ct (lpost I X o)):wpE G R nt (.loop a) σ hp ct (X e):=by
 obtain ⟨n,hn⟩:=loopO_ex h;have hm:∀ n s σ hp ct,I s σ hp ct→loopF step n s=some e→wpE G R nt (.loop a) σ hp ct (X e):=by
  intro n;induction n with
  |zero=>intro s σ hp ct _ h;simp[loopF] at h
  |succ n ih =>
   intro s σ hp ct hI h;simp only[loopF] at h;split at h
   ·simp at h
   ·rename_i s' hst
    obtain ⟨k,ex,σ',hp',ct',h1,rfl,h2⟩:=hs s _ σ hp ct hst hI;obtain ⟨k2,ex2,σ2,hp2,ct2,h3,h4⟩:=ih s' σ' hp' ct' h2 h;refine ⟨max k k2+1,ex2,σ2,hp2,ct2,?_,h4⟩;simp only[exec,loopN] at h3 ⊢;rw[exec_mono R.le_refl (by omega:k≤max k k2+1) h1];exact loopN_mono (fun s r h=>exec_mono R.le_refl (by omega:k2≤max k k2+1) h) (Nat.le_max_right k k2) h3
   ·rename_i e' hst
    obtain ⟨k,ex,σ',hp',ct',h1,h5,h2⟩:=hs s _ σ hp ct hst hI;have h:=Option.some.inj h;subst h;refine ⟨k+1,ex,σ',hp',ct',?_,h2⟩;simp only[exec,loopN];rw[exec_mono R.le_refl (by omega:k≤k+1) h1];cases ex with
    |normal=>exact absurd rfl h5
    |_=>rfl
 exact hm n s0 σ hp ct h0 hn
end
section
variable {nt:Nat} {σ:Sl} {hp:Heap} {ct:Nat} {G:Nat→List IV} {R:Run} {Q:Ex→Sl→Heap→Nat→Prop}
theorem e_reg{l:List Ins}{b:IR}(h:wpL G R nt l (fun σ hp ct=>wpE G R nt b σ hp ct Q) σ hp ct):wpE G R nt (.seq (.reg l) b) σ hp ct Q:=wpE_seq (wp_reg h)
theorem e_regD{l:List Ins}{pre:List (List Nat)}{b:IR}(hd:drawStatic l pre=true)(hf:drawFree l pre=true)(h:wpL G R nt l (fun σ hp ct=>wpE G R nt b σ hp ct Q) σ hp ct):wpE G R nt (.seq (.regD l pre) b) σ hp ct Q:=wpE_seq (wp_regD hd hf h)
theorem e_last{l:List Ins}(h:wpL G R nt l (fun σ hp ct=>Q .normal σ hp ct) σ hp ct):wpE G R nt (.reg l) σ hp ct Q:=wp_reg h
theorem fn_pure{F:Nat→Option Fn}{X:Run}{f:Nat}{fn:Fn}(hf:F f=some fn){args:List A1}(hn:args.length≤fn.nt){fr:Bool}{P:List A1→Prop}
  (h:∀ lent,(lent=true→fr=true)→wpE G (lim G F X) fn.nt fn.body (ini args) [] 1 (atEnd fn.nt fn.res (fin lent P))):pc (lim G F X) f args fr P:=by
 intro lent hl;obtain ⟨rs,hp,h1,vs,h2,h3⟩:=fn_wp (bs:=[]) hf hn (h lent hl);exact ⟨vs,by simp only[pureCall,h1,h2],h3⟩
theorem fn_meth{F:Nat→Option Fn}{X:Run}{f:Nat}{fn:Fn}(hf:F f=some fn){args:List A1}{cells:List IV}(hn:args.length+1≤fn.nt){P:List A1→List IV→Prop}
  (h:∀ hp0,hp0.get PB=some (.cells 0 (cells.map I))→wpE G (lim G F X) fn.nt fn.body (ini (.c (.r (.ptr PB 0 0))::args)) hp0 1 (atEnd fn.nt fn.res (finM P))):meth (lim G F X) f cells args P:=by
 obtain ⟨rs,hp,h1,cs2,vs,cells',h2,h3,h4,h5⟩:=fn_wp (bs:=[.cells 0 (cells.map I)]) hf (args:=.c (.r (.ptr PB 0 0))::args) (by simpa using hn) (h _ (by simp[List.zipIdx]));exact ⟨rs,hp,cs2,vs,cells',h1,h2,h3,h4,h5⟩
theorem e_ret{res:List Res}{lent:Bool}{P:List A1→Prop}{vs:List A1}(h:ResP nt σ hp [] lent res vs)(hP:P vs):atEnd nt res (fin lent P) .ret σ hp ct:=by
 obtain ⟨rs,h1,h2⟩:=h.ev;exact ⟨rs,h1,vs,h2,hP⟩
theorem e_retM{res:List Res}{P:List A1→List IV→Prop}{vs:List A1}{cells':List IV}{cs2:List AC}(hb:hp.get PB=some (.cells 0 cs2))(hc:∀ b g,BackP hp [(PB,b,g)] false cs2 cells')(h:∀ b g,ResP nt σ hp [(PB,b,g)] false res vs)(hP:P vs cells'):atEnd nt res (finM P) .ret σ hp ct:=by
 obtain ⟨rs,h1,_⟩:=(h 0 0).ev;refine ⟨rs,h1,cs2,vs,cells',hb,fun b g=>(hc b g).ev,fun b g=>?_,hP⟩;obtain ⟨rs',h3,h4⟩:=(h b g).ev;rw[h1] at h3;have h3:=Option.some.inj h3;rw[h3];exact h4
end
def bnd{α β:Type}(a:α)(f:α→β):β:=f a
theorem bnd_e{α β:Type}{a:α}{f:α→β}{r:β}(h:bnd a f=r):∃ x,a=x∧f x=r:=⟨a,rfl,h⟩
def lret{E R β:Type}(o:Option (E⊕R))(k:E→Option β)(w:R→Option β):Option β:=match o with
  |none=>none
  |some (.inl e)=>k e
  |some (.inr r)=>w r
theorem lret_e{E R β:Type}{o:Option (E⊕R)}{k:E→Option β}{w:R→Option β}{b:β}(h:lret o k w=some b):∃ e,o=some e∧(match e with|.inl e=>k e|.inr r=>w r)=some b:=by
 cases o with
 |none=>simp[lret] at h
 |some e=>cases e with
  |inl e=>exact ⟨_,rfl,h⟩
  |inr r=>exact ⟨_,rfl,h⟩
theorem cgI{k:IntKind}{a b:Int}(h:a=b):V (.int k a)=V (.int k b):=by rw[h]
theorem cgB{a b:Bool}(h:a=b):V (.bool a)=V (.bool b):=by rw[h]
theorem cgS{a b:List UInt8}(h:a=b):V (.str a)=V (.str b):=by rw[h]
theorem bt(b:Bool):b=true∨b=false:=by cases b<;>simp
def kp(L:List Nat)(lo hi t:Nat):Bool:=!(L.contains t)&&(decide (t<lo)||decide (hi<t))
def Keep(L:List Nat)(lo hi:Nat)(σ σ':Sl):Prop:=∀ t,kp L lo hi t=true→σ' t=σ t
theorem Keep.refl(L:List Nat)(lo hi:Nat)(σ:Sl):Keep L lo hi σ σ:=fun _ _=>rfl
theorem Keep.trans{L:List Nat}{lo hi:Nat}{σ σ' σ'':Sl}(h:Keep L lo hi σ σ')(k:Keep L lo hi σ' σ''):Keep L lo hi σ σ'':=fun t ht=>(k t ht).trans (h t ht)
theorem Keep.upd{L:List Nat}{lo hi:Nat}{σ σ':Sl}(h:Keep L lo hi σ σ'){d:Nat}(hd:kp L lo hi d=false)(v:AV):Keep L lo hi σ (upd σ' d v):=fun t ht=>by
 rw[upd_ne];exact h t ht
 rintro rfl;rw[hd] at ht;simp at ht
theorem obind{α β:Type}{o:Option α}{f:α→Option β}{r:β}(h:o.bind f=some r):∃ y,o=some y∧f y=some r:=by
 cases o with
 |none=>simp at h
 |some y=>exact ⟨y,rfl,h⟩
theorem ctrue{α:Type}{p:Bool}{a b:α}{r:α}(h:(bif p then a else b)=r)(e:p=true):a=r:=by subst e;exact h
theorem cfalse{α:Type}{p:Bool}{a b:α}{r:α}(h:(bif p then a else b)=r)(e:p=false):b=r:=by subst e;exact h
theorem Keep.sub{L L2:List Nat}{lo hi lo2 hi2:Nat}{σ σ':Sl}(h:Keep L2 lo2 hi2 σ σ')(hs:(L2.all (fun t=>!kp L lo hi t)&&(decide (hi2<lo2)||(decide (lo≤lo2)&&decide (hi2≤hi))))=true):Keep L lo hi σ σ':=by
 intro t ht;refine h t ?_;simp only[Bool.and_eq_true,Bool.or_eq_true,List.all_eq_true,decide_eq_true_eq] at hs;simp only[kp,Bool.and_eq_true,Bool.or_eq_true,decide_eq_true_eq,Bool.not_eq_true'] at ht ⊢;refine ⟨?_,?_⟩
 ·cases hc:L2.contains t with
  |false=>rfl
  |true =>
   have:=hs.1 t (by simpa using hc)
   simp only[kp,Bool.not_eq_true',Bool.and_eq_false_iff,Bool.or_eq_false_iff,decide_eq_false_iff_not] at this;rcases this with h1|h1
   ·rw[ht.1] at h1;simp at h1
   ·omega
 ·rcases hs.2 with h2|h2<;>omega
theorem Fr.ext{H Q:List Nat}{a b c:Heap}(h:Fr H a b)(k:Fr Q b c)(hq:Q.all (H.contains ·)=true):Fr H a c:=fun p hp =>
 (k p fun hin=>hp (by have:=List.all_eq_true.1 hq p hin;simpa using this)).trans (h p hp)
theorem idx_in{α:Type}{l:List α}{n:Int}{x:α}(h:idx l n=some x):0≤n∧n<l.length:=by
 obtain ⟨h1,h2,_⟩:=idx_is h;exact ⟨h1,by omega⟩
theorem stoAll{α:Type}{E:Rep α}{f:Bool}{c ws:List IV}{u u':α}(hc:E.rp f c u)(hw:E.rp f ws u'):E.rp f (c.take 0++ws++c.drop (0+ws.length)) u':=by
 have e:c.drop (0+ws.length)=[]:=List.drop_eq_nil_of_le (by rw[E.len hc,E.len hw];omega);rw[e];simpa using hw
def bytesStr(l:List Int):List UInt8:=l.map fun n=>UInt8.ofNat n.toNat
theorem rows_ints{k:IntKind}{f:Bool}:∀ {l:List Int} {c:List IV},rows (Rep.int k) f c l→c=l.map (.int k)
 |[],c,h=>h
 |x::l,c,h=>by
  obtain ⟨a,b,rfl,h1,h2⟩:=h
  obtain rfl:a=[.int k x]:=h1
  rw[rows_ints h2];rfl
theorem ints_rows{k:IntKind}{f:Bool}:∀ l:List Int,rows (Rep.int k) f (l.map (.int k)) l
 |[]=>rfl
 |x::l=>⟨[.int k x],_,rfl,rfl,ints_rows l⟩
theorem byteOfs:∀ xs:List Int,traverse byteOf ((xs.map (IV.int .u8)).map I)=some (bytesStr xs)
 |[]=>rfl
 |x::xs=>by simp only[List.map_cons,traverse_cons,byteOf,byteOfs xs];rfl
section
variable {nt:Nat} {σ:Sl} {hp:Heap} {ct d:Nat} {G:Nat→List IV} {R:Run} {l:List Ins} {c:IR}
theorem gE{Q:Ex→Sl→Heap→Nat→Prop}(h:∀ σ',σ'=σ→wpE G R nt c σ' hp ct Q):wpE G R nt c σ hp ct Q:=h σ rfl
theorem gL{Q:Sl→Heap→Nat→Prop}(h:∀ σ',σ'=σ→wpL G R nt l Q σ' hp ct):wpL G R nt l Q σ hp ct:=h σ rfl
variable {Q:Sl→Heap→Nat→Prop}
theorem set_mk(t:Nat)(v:AV)(hp':Heap):({mkS nt σ hp ct with tm:=(mkS nt σ hp ct).tm.set t v,hp:=hp'}:St)=mkS nt (upd σ t v) hp' ct:=by
 have:=with_mk (nt:=nt) (σ:=σ) (hp:=hp) (ct:=ct) (some t) (v,hp',ct)
 simpa[St.with,St.put,updO,mkS_ct] using this
theorem k_frz{α:Type}{E:Rep α}{P:List Nat}{f:Bool}{t:Nat}{a:AC}{xs:List α}(hx:(mkS nt σ hp ct).get t=.v (.c a))(hs:so P E f hp a xs)(hP:P.all (fun b=>decide (b<PB))=true)
  (n:∀ v hp',sv E f v xs→Fr P hp hp'→wpL G R nt l Q (upd σ t (V v)) hp' ct):wpL G R nt (.frz t::l) Q σ hp ct:=by
 simp only[wpL];rcases hs with ⟨rfl,rfl⟩|⟨rfl,rfl⟩|⟨b,g,off,cs,c,hb,rfl,h4,h5,h6,h7⟩
 ·refine ⟨upd σ t (V .nilS),hp,ct,?_,n _ _ (.inl ⟨rfl,rfl⟩) (Fr.refl _ _)⟩
  simp only[insI,hx];exact congrArg some (set_mk t (V .nilS) hp)
 ·refine ⟨upd σ t (V .emp),hp,ct,?_,n _ _ (.inr (.inl ⟨rfl,rfl⟩)) (Fr.refl _ _)⟩
  simp only[insI,hx];exact congrArg some (set_mk t (V .emp) hp)
 ·have hlt:b<PB:=by simpa using List.all_eq_true.1 hP b hb
  have hg:hp.get b=some (.cells g (cs.map I)):=(Heap.row_eq h4).1;have hch:(cs.map I).flatMap (refC true)=[]:=by
   rw[List.flatMap_eq_nil_iff];intro x hx';simp at hx';obtain ⟨v,_,rfl⟩:=hx';rfl
  have hd:refDeep hp 3 [b]=[b]:=by simp[refDeep,hg,hch]
  refine ⟨upd σ t (V (.lit 0 c xs.length)),delAll hp [b],ct,?_,n _ _ (.inr (.inr ⟨0,c,rfl,h5,fun _=>rfl⟩)) (fun q hq=>?_)⟩
  ·have hr:rd (fun x=>[b].contains x) hp 0 rdDepth (.r (.sl b g off E.sz xs.length))=some (.lit 0 c xs.length):=rd_rows (n:=5) (by simp) h4 h6 h7
   have hbs:(refDeep hp 3 [b]).filter (fun x=>decide (x<PB))=[b]:=by rw[hd];simp[hlt]
   simp only[insI,hx,A1.cells,List.flatMap_cons,List.flatMap_nil,refC,refR,if_true,List.append_nil,mkS_hp,hbs,traverse_cons,traverse_nil,hr];exact congrArg some (set_mk t _ _)
  ·rw[Heap.get_delAll,if_neg];simp;rintro rfl;exact hq hb
theorem k_movT{x:Opd}{a:List A1}(h:evσ nt σ x=.tup a)(n:wpL G R nt l Q (upd σ d (.tup a)) hp ct):wpL G R nt (.op (some d) none (.mov x)::l) Q σ hp ct:=k_op (by rw[x_mov,h];rfl) n
theorem k_cvBS{P:List Nat}{f:Bool}{x:Opd}{a:AC}{xs:List Int}(hx:evσ nt σ x=.v (.c a))(hs:sa P (Rep.int .u8) f hp a xs)(n:wpL G R nt l Q (upd σ d (V (.str (bytesStr xs)))) hp ct):wpL G R nt (.op (some d) none (.cvBS x)::l) Q σ hp ct:=by
 obtain ⟨c,hc,hcs⟩:=hs.cells;have hstr:isStrC a=false:=by
  rcases hs with ⟨v,rfl,⟨rfl,rfl⟩|⟨rfl,rfl⟩|⟨t,c,rfl,h4,h5⟩⟩|⟨rfl,rfl⟩|⟨rfl,rfl⟩|⟨b,g,off,cs,c,hb,rfl,h4⟩<;>rfl
 refine k_op (v:=V (.str (bytesStr xs))) (hp':=hp) (ct':=ct) ?_ n;have hcs:slCells hp 1 a=some (c.map I,xs.length):=hcs;have key:traverse byteOf (c.map I)=some (bytesStr xs):=by rw[rows_ints hc];exact byteOfs xs
 simp only[opK,step,ev_mk,hx,hstr,mkS_hp,Bool.false_eq_true,if_false,hcs,key,okv,Option.map_some,mkS_ct]
theorem sa.backM{α:Type}{P:List Nat}{E:Rep α}{f:Bool}{a:AC}{xs:List α}(h:sa P E f hp a xs)(hP:(!P.contains PB)=true):∃ v,(∀ b g,backC hp [(PB,b,g)] false a=some (I v))∧sv E f v xs:=by
 have hpl:∀ b g,P.all (fun q=>(backAt [(PB,b,g)] q).isNone)=true:=by
  intro b g;rw[List.all_eq_true];intro q hq;have:PB≠q:=by rintro rfl;simp[hq] at hP
  simp[backAt,this]
 obtain ⟨v,h1,h2⟩:=h.back false (fun q=>nomatch q) [(PB,0,0)] (hpl 0 0);refine ⟨v,fun b g=>?_,h2⟩;obtain ⟨v',h3,h4⟩:=h.back false (fun q=>nomatch q) [(PB,b,g)] (hpl b g);rw[h3]
 -- the same reading
 have e:backC hp [(PB,b,g)] false a=backC hp [(PB,0,0)] false a:=by
  rcases h with ⟨v,rfl,h⟩|⟨rfl,rfl⟩|⟨rfl,rfl⟩|⟨b',g',off,cs,c,hb,rfl,h2,h3,h4,h5⟩
  ·rfl
  ·rfl
  ·rfl
  ·have hne:PB≠b':=by rintro rfl;simp[hb] at hP
   have q:(fun x=>(backAt [(PB,b,g)] x).isNone)=fun x=>(backAt [(PB,0,0)] x).isNone:=by funext x;simp only[backAt];split<;>rfl
   have h0:backAt [(PB,b,g)] b'=none:=by simp[backAt,hne]
   have h1:backAt [(PB,0,0)] b'=none:=by simp[backAt,hne]
   simp only[backC,backR,h0,h1,q]
 rw[h3,h1] at e;exact e
end
/- Whole runs. -/
def isTrue1:Option (List A1×Heap)→Bool
  |some ([.c (.r (.i (.bool true)))],_)=>true
  |_=>false
theorem pc_true{G:Nat→List IV}{F:Nat→Option Fn}{X:Run}{f n d:Nat}{as:List A1}{fr:Bool}(h:isTrue1 (run G F X n d f as [])=true):pc (lim G F X) f as fr (fun vs=>vs=[.c (I (.bool true))]):=by
 intro lent _;unfold isTrue1 at h;split at h
 ·rename_i hp e
  exact ⟨_,by simp only[pureCall,lim_of e,traverse_cons,back_sc (show (IV.bool true).fresh=true from rfl),traverse_nil],rfl⟩
 ·simp at h
def nums(b:Bool)(l:List Int):IV:=if b then .nilS else .lit 1 (l.map (.int .i64)) l.length
theorem sv_nums{b:Bool}{l:List Int}(h:b=true→l=[]):sv (Rep.int .i64) false (nums b l) l:=by
 cases b with
 |true=>rw[h rfl];exact .inl ⟨rfl,rfl⟩
 |false=>exact .inr (.inr ⟨1,_,rfl,ints_rows _,by simp⟩)
theorem pc_law{R:Run}{f:Nat}{as:List A1}{fr:Bool}{P:List A1→Prop}(h:pc R f as fr P)(hP:∀ vs,P vs→vs=[.c (I (.bool true))]):∃ hp,R f as []=some ([.c (I (.bool true))],hp):=by
 obtain ⟨vs,h1,h2⟩:=h false (fun q=>nomatch q);obtain rfl:=hP vs h2;unfold pureCall at h1;split at h1
 ·rename_i rs hp e
  refine ⟨hp,?_⟩;rw[e];cases rs with
  |nil=>simp at h1
  |cons a rs =>
   rw[traverse_cons] at h1;split at h1
   ·simp at h1
   ·rename_i b hb
    cases rs with
    |cons c rs =>
     rw[traverse_cons] at h1;split at h1
     ·simp at h1
     ·rename_i bs hbs
      split at hbs
      ·simp at hbs
      ·split at hbs
       ·simp at hbs
       ·have:=Option.some.inj h1;have hbs:=Option.some.inj hbs;subst hbs;simp at this
    |nil =>
     simp only[traverse_nil] at h1;obtain rfl:b=.c (I (.bool true)):=by simpa using h1
     cases a with
     |agg xs =>
      simp only[back1] at hb;cases hq:traverse (backC hp [] false) xs<;>rw[hq] at hb<;>simp at hb
     |c x =>
      simp only[back1] at hb;cases x with
      |clo g cs =>
       simp only[backC] at hb;cases hq:traverse (backR hp [] false) cs<;>rw[hq] at hb<;>simp at hb
       unfold mkClo at hb;split at hb<;>simp at hb
      |r a =>
       cases a with
       |i v=>simp[backC,backR] at hb;rw[hb]
       |ptr b g off=>simp[backC,backR,backAt] at hb
       |map b g=>simp[backC,backR,backAt] at hb
       |sl b g off sz len =>
        simp only[backC,backR,backAt] at hb;split at hb
        ·rename_i v hv
         simp only[rdDepth,rd,if_true,Option.isNone_none] at hv;simp at hb;split at hv
         ·simp at hv
         ·split at hv
          ·split at hv
           ·simp at hv
           ·have hv:=Option.some.inj hv;subst hv;simp at hb
          ·simp at hv
        ·simp at hb
 ·simp at h1
inductive Tg where
  |n
  |t (S:List Nat)
  |r (S:List Nat)
def Tg.isT:Tg→Bool
  |.t _=>true
  |_=>false
def Dep(Rs:List Nat)(G:Nat→List IV)(R:Run)(s:St)(x:Ins):Prop:=match x with
  |.op d g k=>∀ h ct,(∀ b∈Rs,h.get b=s.hp.get b)→∀ r,insV G R s d g k=some r→∃ r',insV G R {s with hp:=h,ct:=ct} d g k=some r'∧r'.1=r.1
  |_=>False
def wpT(G:Nat→List IV)(R:Run)(nt:Nat):List (Ins×Tg)→(Sl→Heap→Nat→Prop)→Sl→Heap→Nat→Prop
  |[],Q,σ,hp,ct=>Q σ hp ct
  |(x,tg)::l,Q,σ,hp,ct=>wpL G R nt [x] (fun σ' hp' ct'=>(match tg with|.t S=>Fr S hp hp'|_=>True)∧wpT G R nt l Q σ' hp' ct') σ hp ct∧(match tg with|.r S=>Dep S G R (mkS nt σ hp ct) x|_=>True)
def fpsOf:List (Ins×Tg)→List (List Nat)
  |[]=>[]
  |(_,.t S)::l=>S::fpsOf l
  |(_,_)::l=>fpsOf l
def drawTag(L:List (Ins×Tg))(pre:List (List Nat)):Bool :=
  let l:=L.map Prod.fst
  (L.all fun p=>p.1.isOp&&(p.1.turns==p.2.isT))&&(List.range L.length).all fun i=>match L[i]? with
    |some (_,.t _)=>true
    |some (x,.n)=>loOf l pre i==hiOf l pre i||x.memless
    |some (_,.r Rs)=>(List.range (hiOf l pre i-loOf l pre i)).all fun t=>match (fpsOf L)[loOf l pre i+t]? with
      |some S=>S.all fun b=>!Rs.contains b
      |none=>false
    |none=>false
def FrCh(fps:List (List Nat))(hs:List (Heap×Nat)):Prop:=∀ t S m m',fps[t]?=some S→hs[t]?=some m→hs[t+1]?=some m'→Fr S m.1 m'.1
section
variable {G:Nat→List IV} {R:Run} {nt:Nat}
theorem wpT_trail:∀ {L:List (Ins×Tg)} {σ:Sl} {hp:Heap} {ct:Nat} {Q:Sl→Heap→Nat→Prop},(L.all fun p=>p.1.isOp&&(p.1.turns==p.2.isT))=true→wpT G R nt L Q σ hp ct →
  ∃ ss hs,trail G R (L.map Prod.fst) (mkS nt σ hp ct)=some (ss,hs)∧FrCh (fpsOf L) hs∧(∀ (i:Nat) (x:Ins) (Rs:List Nat) (s:St),L[i]?=some (x,Tg.r Rs)→ss[i]?=some s→Dep Rs G R s x)∧∃ σ' hp' ct',ss.getLast?=some (mkS nt σ' hp' ct')∧Q σ' hp' ct'
 |[],σ,hp,ct,Q,_,h=>⟨[mkS nt σ hp ct],[(hp,ct)],rfl,fun t S m m' h=>by simp[fpsOf] at h,fun i x Rs s h=>by simp at h,σ,hp,ct,rfl,h⟩
 |(x,tg)::L,σ,hp,ct,Q,ha,h=>by
  simp only[List.all_cons,Bool.and_eq_true,beq_iff_eq] at ha
  obtain ⟨⟨hop,htn⟩,ha⟩:=ha
  obtain ⟨h,hdep⟩:=h
  obtain ⟨σ1,hp1,ct1,e1,hfr,h⟩:=wpL_sound h
  obtain ⟨ss,hs,e2,c2,d2,σ',hp',ct',l2,q2⟩:=wpT_trail ha h
  have e1:insI G R (mkS nt σ hp ct) x=some (mkS nt σ1 hp1 ct1):=by
   simp only[insL] at e1
   split at e1
   ·rename_i s hs';rw[hs'];exact e1
   ·simp at e1
  have hall:∀ y∈L.map Prod.fst,y.isOp=true:=by
   intro y hy
   obtain ⟨p,hp,rfl⟩:=List.mem_map.1 hy
   exact (by simpa using List.all_eq_true.1 ha p hp:p.1.isOp=true∧_).1
  have C:=Canon.of hall e2
  have h0:hs[0]?=some (hp1,ct1):=by
   have:=C.mem 0 _ (Nat.zero_le _) C.at0
   have hz:cntS (L.map Prod.fst) (ltS 0)=0:=by simp[cntS,ltS]
   rw[hz] at this;exact this
  refine ⟨mkS nt σ hp ct::ss,if x.turns then ((mkS nt σ hp ct).hp,(mkS nt σ hp ct).ct)::hs else hs,?_,?_,?_,σ',hp',ct',?_,q2⟩
  ·simp only[List.map_cons,trail,e1,e2]
  ·cases tg with
   |t S =>
    simp only[Tg.isT] at htn
    rw[htn]
    simp only[fpsOf,if_true]
    intro t S' m m' h1 h2 h3
    cases t with
    |zero =>
     simp at h1 h2 h3
     subst h1;subst h2
     rw[h0] at h3
     have h3:=Option.some.inj h3
     subst h3
     exact hfr
    |succ t=>exact c2 t S' m m' (by simpa using h1) (by simpa using h2) (by simpa using h3)
   |n=>simp only[Tg.isT] at htn;rw[htn];exact c2
   |r S=>simp only[Tg.isT] at htn;rw[htn];exact c2
  ·intro i y Rs s h1 h2
   cases i with
   |zero=>simp at h1 h2;obtain ⟨rfl,rfl⟩:=h1;subst h2;exact hdep
   |succ i=>exact d2 i y Rs s (by simpa using h1) (by simpa using h2)
  ·cases ss with
   |nil=>simp at l2
   |cons a b=>simpa using l2
theorem chain_get{fps:List (List Nat)}{hs:List (Heap×Nat)}(hc:FrCh fps hs){Rs:List Nat}{a:Nat}:∀ (d:Nat) {m m':Heap×Nat},(∀ t,t<d→∃ S,fps[a+t]?=some S∧∀ b∈Rs,b∉S)→hs[a]?=some m→hs[a+d]?=some m'→∀ b∈Rs,m'.1.get b=m.1.get b
 |0,m,m',_,h1,h2,b,_=>by rw[Nat.add_zero,h1] at h2;rw[Option.some.inj h2]
 |d+1,m,m',hf,h1,h2,b,hb=>by
  have hlt:=(List.getElem?_eq_some_iff.1 h2).1
  obtain ⟨m1,hm1⟩:∃ m1,hs[a+d]?=some m1:=⟨hs[a+d]'(by omega),by simp⟩
  have ih:=chain_get hc d (fun t ht=>hf t (by omega)) h1 hm1 b hb
  obtain ⟨S,hS,hn⟩:=hf d (by omega)
  rw[← ih]
  exact hc (a+d) S m1 m' hS hm1 h2 b (hn b hb)
theorem drawDyn_tag{L:List (Ins×Tg)}{pre:List (List Nat)}(hf:drawTag L pre=true)(hd:Draw (L.map Prod.fst) pre){s:St}{ss:List St}{hs:List (Heap×Nat)}(ht:trail G R (L.map Prod.fst) s=some (ss,hs))(hc:FrCh (fpsOf L) hs)
  (hdep:∀ (i:Nat) (x:Ins) (Rs:List Nat) (s:St),L[i]?=some (x,Tg.r Rs)→ss[i]?=some s→Dep Rs G R s x):drawDyn G R (L.map Prod.fst) pre ss hs=true:=by
 simp only[drawTag,Bool.and_eq_true,List.all_eq_true,List.mem_range] at hf;obtain ⟨hall,hf⟩:=hf;have hop:∀ y∈L.map Prod.fst,y.isOp=true:=by
  intro y hy;obtain ⟨p,hp,rfl⟩:=List.mem_map.1 hy;exact (hall p hp).1
 have C:=Canon.of hop ht;have htot:∀ c,c≤cntS (L.map Prod.fst) (ltS (L.map Prod.fst).length)→∃ m,hs[c]?=some m:=by
  intro c hc;have hn:ss[(L.map Prod.fst).length]?=some (ss[(L.map Prod.fst).length]'(by rw[C.len];omega)):=by simp[C.len]
  have:=C.mem _ _ (Nat.le_refl _) hn
  have hlt:=(List.getElem?_eq_some_iff.1 this).1;exact ⟨hs[c]'(by omega),by simp⟩
 simp only[drawDyn,List.all_eq_true,List.mem_range];intro i hi;have hi':i<L.length:=by simpa using hi
 have hfi:=hf i hi';obtain ⟨p,hp⟩:∃ p,L[i]?=some p:=⟨L[i],by simp[hi']⟩;obtain ⟨x,tg⟩:=p;have hx:(L.map Prod.fst)[i]?=some x:=by simp[hp]
 obtain ⟨s1,s2,h1,h2,h3⟩:=C.step i x hx;have htn:x.turns=tg.isT:=by
  have:=(hall (x,tg) (List.mem_of_getElem? hp)).2
  simpa using this
 have hm1:=C.mem i s1 (by omega) h1;have hlo:loOf (L.map Prod.fst) pre i≤cntS (L.map Prod.fst) (ltS i):=cntS_mono fun j hj hp=>by
  have:=hd.lt i j hp;simp[ltS,this]
 have hhi:cntS (L.map Prod.fst) (ltS i)≤hiOf (L.map Prod.fst) pre i:=cntS_mono fun j hj hp=>by
  simp[ltS] at hp;cases hq:preHas pre j i with
  |false=>rfl
  |true=>have:=hd.lt j i hq;omega
 have hhi2:hiOf (L.map Prod.fst) pre i≤cntS (L.map Prod.fst) (ltS (L.map Prod.fst).length):=by
  unfold hiOf;refine cntS_mono fun j hj _=>?_;unfold turnAt at hj;split at hj
  ·rename_i y hy
   have:=(List.getElem?_eq_some_iff.1 hy).1
   simp only[ltS,decide_eq_true_eq];exact this
  ·simp at hj
 simp only[hx,h1,Bool.or_eq_true,beq_iff_eq,List.all_eq_true,List.mem_range];rw[hp] at hfi;cases tg with
 |t S=>exact .inl htn
 |n =>
  simp only[Bool.or_eq_true,beq_iff_eq] at hfi;rcases hfi with h|h
  ·exact .inr (.inl h)
  ·refine .inr (.inr fun c hc=>?_)
   obtain ⟨d,g,k,rfl⟩:=hd.op i x hx;obtain ⟨m,hm⟩:=htot (loOf (L.map Prod.fst) pre i+c) (by omega);rw[hm];simp only[insI] at h3;split at h3
   ·rename_i r hr
    obtain ⟨r',hr',he⟩:=insV_memless (s:=s1) (s':={s1 with hp:=m.1,ct:=m.2}) rfl h hr;simp only[stableAt,hr,hr',he,eqAV_refl]
   ·simp at h3
 |r Rs =>
  simp only[List.all_eq_true,List.mem_range] at hfi;refine .inr (.inr fun c hc'=>?_);obtain ⟨d,g,k,rfl⟩:=hd.op i x hx;obtain ⟨m,hm⟩:=htot (loOf (L.map Prod.fst) pre i+c) (by omega);rw[hm];simp only[insI] at h3;split at h3
  ·rename_i r hr
   have hdp:=hdep i _ Rs s1 hp h1;have hS:∀ t,loOf (L.map Prod.fst) pre i≤t→t<hiOf (L.map Prod.fst) pre i→∃ S,(fpsOf L)[t]?=some S∧∀ b∈Rs,b∉S:=by
    intro t ht1 ht2
    have:=hfi (t-loOf (L.map Prod.fst) pre i) (by omega)
    rw[show loOf (L.map Prod.fst) pre i+(t-loOf (L.map Prod.fst) pre i)=t by omega] at this;split at this
    ·rename_i S hS
     refine ⟨S,hS,fun b hb hin=>?_⟩
     have:=List.all_eq_true.1 this b hin
     simp[hb] at this
    ·simp at this
   have hag:∀ b∈Rs,m.1.get b=s1.hp.get b:=by
    intro b hb;rcases Nat.le_total (cntS (L.map Prod.fst) (ltS i)) (loOf (L.map Prod.fst) pre i+c) with hle|hle
    ·exact chain_get hc (Rs:=Rs) (a:=cntS (L.map Prod.fst) (ltS i)) (loOf (L.map Prod.fst) pre i+c-cntS (L.map Prod.fst) (ltS i)) (fun t ht=>hS _ (by omega) (by omega)) hm1 (by rw[show cntS (L.map Prod.fst) (ltS i)+(loOf (L.map Prod.fst) pre i+c-cntS (L.map Prod.fst) (ltS i))=loOf (L.map Prod.fst) pre i+c by omega];exact hm) b hb
    ·exact (chain_get hc (Rs:=Rs) (a:=loOf (L.map Prod.fst) pre i+c) (cntS (L.map Prod.fst) (ltS i)-(loOf (L.map Prod.fst) pre i+c)) (fun t ht=>hS _ (by omega) (by omega)) hm (by rw[show loOf (L.map Prod.fst) pre i+c+(cntS (L.map Prod.fst) (ltS i)-(loOf (L.map Prod.fst) pre i+c))=cntS (L.map Prod.fst) (ltS i) by omega];exact hm1) b hb).symm
   obtain ⟨r',hr',he⟩:=hdp m.1 m.2 hag r hr;simp only[stableAt,hr,hr',he,eqAV_refl]
  ·simp at h3
variable {σ:Sl} {hp:Heap} {ct:Nat}
theorem e_regT{L:List (Ins×Tg)}{pre:List (List Nat)}{b:IR}{Q:Ex→Sl→Heap→Nat→Prop}(hd:drawStatic (L.map Prod.fst) pre=true)(hf:drawTag L pre=true)(h:wpT G R nt L (fun σ hp ct=>wpE G R nt b σ hp ct Q) σ hp ct):wpE G R nt (.seq (.regD (L.map Prod.fst) pre) b) σ hp ct Q:=by
 refine wpE_seq ?_;have hall:(L.all fun p=>p.1.isOp&&(p.1.turns==p.2.isT))=true:=by
  simp only[drawTag,Bool.and_eq_true] at hf;exact hf.1
 obtain ⟨ss,hs,e1,c1,d1,σ',hp',ct',l1,q1⟩:=wpT_trail hall h;exact wpE_regD' e1 (drawDyn_tag hf (Draw.of hd) e1 c1 d1) l1 q1
theorem e_lastT{L:List (Ins×Tg)}{pre:List (List Nat)}{Q:Ex→Sl→Heap→Nat→Prop}(hd:drawStatic (L.map Prod.fst) pre=true)(hf:drawTag L pre=true)(h:wpT G R nt L (fun σ hp ct=>Q .normal σ hp ct) σ hp ct):wpE G R nt (.regD (L.map Prod.fst) pre) σ hp ct Q:=by
 have hall:(L.all fun p=>p.1.isOp&&(p.1.turns==p.2.isT))=true:=by
  simp only[drawTag,Bool.and_eq_true] at hf;exact hf.1
 obtain ⟨ss,hs,e1,c1,d1,σ',hp',ct',l1,q1⟩:=wpT_trail hall h;exact wpE_regD' e1 (drawDyn_tag hf (Draw.of hd) e1 c1 d1) l1 q1
variable {L:List (Ins×Tg)} {Q:Sl→Heap→Nat→Prop} {x:Ins}
theorem t_nil(h:Q σ hp ct):wpT G R nt [] Q σ hp ct:=h
theorem t_n(h:wpL G R nt [x] (fun σ' hp' ct'=>wpT G R nt L Q σ' hp' ct') σ hp ct):wpT G R nt ((x,.n)::L) Q σ hp ct:=⟨wpL_mono (fun _ _ _ h=>⟨trivial,h⟩) h,trivial⟩
theorem t_t{S:List Nat}(h:wpL G R nt [x] (fun σ' hp' ct'=>Fr S hp hp'∧wpT G R nt L Q σ' hp' ct') σ hp ct):wpT G R nt ((x,.t S)::L) Q σ hp ct:=⟨h,trivial⟩
theorem t_r{S:List Nat}(hd:Dep S G R (mkS nt σ hp ct) x)(h:wpL G R nt [x] (fun σ' hp' ct'=>wpT G R nt L Q σ' hp' ct') σ hp ct):wpT G R nt ((x,.r S)::L) Q σ hp ct:=⟨wpL_mono (fun _ _ _ h=>⟨trivial,h⟩) h,hd⟩
theorem sa_iv{α:Type}{E:Rep α}{f:Bool}{a:AC}{xs:List α}(h:sa [] E f hp a xs):∃ v,a=I v∧sv E f v xs:=by
 rcases h with ⟨v,rfl,h⟩|⟨rfl,rfl⟩|⟨rfl,rfl⟩|⟨b,g,off,cs,c,hb,_⟩
 ·exact ⟨v,rfl,h⟩
 ·exact ⟨.nilS,rfl,.inl ⟨rfl,rfl⟩⟩
 ·exact ⟨.emp,rfl,.inr (.inl ⟨rfl,rfl⟩)⟩
 ·simp at hb
def lies(a:AC)(S:List Nat):Prop:=match a with
  |.r (.ptr b _ _)|.r (.sl b _ _ _ _)|.r (.map b _)=>b∈S
  |.clo ..=>False
  |_=>True
theorem sa.lies{α:Type}{P:List Nat}{E:Rep α}{f:Bool}{a:AC}{xs:List α}(h:sa P E f hp a xs):lies a P:=by
 rcases h with ⟨v,rfl,_⟩|⟨rfl,rfl⟩|⟨rfl,rfl⟩|⟨b,g,off,cs,c,hb,rfl,_⟩
 ·trivial
 ·trivial
 ·trivial
 ·exact hb
theorem ep.lies{P:List Nat}{a:AC}{cells:List AC}(h:ep P G hp a cells):lies a P:=by
 rcases h.2 with ⟨b,g,off,hb,rfl⟩|⟨v,rfl⟩
 ·exact hb
 ·trivial
theorem eo.lies{α:Type}{P:List Nat}{E:Rep α}{f:Bool}{a p:AC}{xs:List α}{n:Nat}(h:eo P E f hp a xs p n):lies p P:=by
 obtain ⟨b,g,off,cs,c,hb,_,rfl,_⟩:=h;exact hb
theorem dep_op{S:List Nat}{d:Option Nat}{k:K}(hk:∀ h c,(∀ b∈S,h.get b=hp.get b)→∀ r,opK G R (mkS nt σ hp ct) (d.getD 0) k=some r→∃ r',opK G R (mkS nt σ h c) (d.getD 0) k=some r'∧r'.1=r.1):Dep S G R (mkS nt σ hp ct) (.op d none k):=by
 intro h c hag r hr;have e:insV G R (mkS nt σ hp ct) d none k=opK G R (mkS nt σ hp ct) (d.getD 0) k:=rfl;rw[e] at hr;exact hk h c hag r hr
theorem row_ag{h:Heap}{b:Nat}(e:h.get b=hp.get b)(g:Nat):h.row b g=hp.row b g∧h.cur b=hp.cur b:=by simp[Heap.row,Heap.cur,e]
theorem dep_fadr{S:List Nat}{d:Option Nat}{o:Nat}{x:Opd}{a:AC}(hx:evσ nt σ x=.v (.c a))(ha:lies a S):Dep S G R (mkS nt σ hp ct) (.op d none (.fadr o x)):=dep_op fun h c hag r hr=>by
 rw[x_fadr,hx] at hr ⊢
 cases a with
 |clo=>exact ha.elim
 |r a=>cases a with
  |ptr b g off=>simp only[(row_ag (hag b ha) g).2] at hr ⊢;split at hr<;>simp at hr;subst hr;simp_all
  |i v=>cases v<;>simp at hr ⊢<;>(subst hr;rfl)
  |sl=>simp at hr
  |map=>simp at hr
theorem dep_load{S:List Nat}{d:Option Nat}{m:Nat}{agg:Bool}{x:Opd}{a:AC}(hx:evσ nt σ x=.v (.c a))(ha:lies a S):Dep S G R (mkS nt σ hp ct) (.op d none (.load m agg x)):=dep_op fun h c hag r hr=>by
 have e:lookAt G h a=lookAt G hp a:=by
  cases a with
  |clo=>exact ha.elim
  |r a=>cases a with
   |ptr b g off=>simp only[lookAt,(row_ag (hag b ha) g).1]
   |i v=>cases v<;>rfl
   |sl=>rfl
   |map=>rfl
 rw[x_load,hx] at hr ⊢;simp only[e] at hr ⊢;split at hr
 ·rename_i cs hcs
  split at hr
  ·rename_i cs' hcs'
   cases hq:mk1 agg cs' with
   |none=>rw[hq] at hr;simp at hr
   |some v=>rw[hq] at hr;simp at hr;subst hr;simp
  ·simp at hr
 ·simp at hr
def iadrF(sz:Nat)(hp:Heap)(ct:Nat)(a:AC)(n:Option Nat):Option (AV×Heap×Nat):=match a,n with
    |.r (.sl b g off sz' len),some i=>if sz'=sz∧i<len∧hp.cur b=some g then some (.v (.c (.r (.ptr b g (off+i*sz)))),hp,ct) else none
    |.r (.i (.lit t cs len)),some i=>if i<len∧cs.length=len*sz then some (V (.lp t ((cs.drop (i*sz)).take sz)),hp,ct) else none
    |_,_=>none
theorem dep_iadr{S:List Nat}{d:Option Nat}{sz:Nat}{x i:Opd}{a:AC}(hx:evσ nt σ x=.v (.c a))(ha:lies a S):Dep S G R (mkS nt σ hp ct) (.op d none (.iadr sz x i)):=dep_op fun h c hag r hr=>by
 have e:∀ (hp:Heap) (ct:Nat),opK G R (mkS nt σ hp ct) (d.getD 0) (.iadr sz x i)=iadrF sz hp ct a (evσ nt σ i).nat:=by
  intro hp ct;rw[x_iadr,hx];unfold iadrF;generalize (evσ nt σ i).nat=n;cases n<;>cases a with
  |clo=>rfl
  |r a=>cases a with
   |i v=>cases v<;>rfl
   |_=>rfl
 rw[e] at hr ⊢;generalize (evσ nt σ i).nat=n at hr ⊢;unfold iadrF at hr ⊢;split at hr
 ·rename_i b g off sz' len n
  simp only[(row_ag (hag b ha) g).2];split at hr
  ·rename_i hc;rw[if_pos hc];have hr:=Option.some.inj hr;subst hr;exact ⟨_,rfl,rfl⟩
  ·simp at hr
 ·split at hr
  ·rename_i hc;rw[if_pos hc];have hr:=Option.some.inj hr;subst hr;exact ⟨_,rfl,rfl⟩
  ·simp at hr
 ·simp at hr
theorem dep_bsl{S:List Nat}{d:Option Nat}{sz len:Nat}{zero:List IV}{parts:List (Nat×Opd)}{ps:List (Nat×A1)}{vs:List IV}(hp1:PartsP nt σ parts ps)(hv:fillS sz (repC len zero) ps=some (vs.map I)):Dep S G R (mkS nt σ hp ct) (.op d none (.bsl sz len zero parts false)):=dep_op fun h c hag r hr=>by
 rw[x_bsl,hp1.ev] at hr ⊢
 simp only[hv] at hr ⊢
 split at hr
 ·rename_i hc;rw[if_pos hc]
  simp only[rd_inls,Bool.false_eq_true,if_false] at hr ⊢
  have hr:=Option.some.inj hr;subst hr;exact ⟨_,rfl,rfl⟩
 ·simp at hr
theorem dep_call{S:List Nat}{dd:Option Nat}{f:Nat}{args:List Opd}{as as':List A1}(ha:∀ h:Heap,(∀ b∈S,h.get b=hp.get b)→ArgsP nt σ h [] args as as'):Dep S G R (mkS nt σ hp ct) (.op dd none (.call f args {give:=[],ad:=[],pure:=true})):=dep_op fun h c hag r hr=>by
 have a1:=(ha hp fun _ _=>rfl).ev
 have a2:=(ha h hag).ev
 rw[x_call] at hr ⊢
 simp only[a1.1,a1.2] at hr
 simp only[a2.1,a2.2]
 split at hr
 ·rename_i vs hv
  have hr:=Option.some.inj hr
  subst hr
  exact ⟨_,rfl,rfl⟩
 ·simp at hr
end
mutual
theorem IV.retag_idem:∀ v:IV,(v.retag 1).retag 1=v.retag 1
  |.bool _=>rfl
  |.int _ _=>rfl
  |.str _=>rfl
  |.nilS=>rfl
  |.emp=>rfl
  |.lit t cs n=>by simp[IV.retag,IV.retags_idem cs]
  |.lp t cs=>by simp[IV.retag,IV.retags_idem cs]
  |.nilP=>rfl
  |.gp _ _=>rfl
  |.nilM=>rfl
  |.nilF=>rfl
  |.clo f cs=>by simp[IV.retag,IV.retags_idem cs]
  |.nilI=>rfl
theorem IV.retags_idem:∀ c:List IV,IV.retags 1 (IV.retags 1 c)=IV.retags 1 c
  |[]=>rfl
  |v::c=>by simp[IV.retags,IV.retag_idem v,IV.retags_idem c]
end
inductive CapP(nt:Nat)(σ:Sl):List Opd→List AR→Prop
  |nil:CapP nt σ [] []
  |cons {x:Opd} {a:AC} {r:AR} {l:List Opd} {cs:List AR} (h:evσ nt σ x=.v (.c a)) (c:capOf a=some r) (t:CapP nt σ l cs):CapP nt σ (x::l) (r::cs)
inductive LendP(hp:Heap):List AR→List IV→Prop
  |nil:LendP hp [] []
  |ptr {b g:Nat} {cs:List IV} {l:List AR} {vs:List IV} (hb:hp.get b=some (.cells g (cs.map I))) (t:LendP hp l vs):LendP hp (.ptr b g 0::l) (.lp 1 (IV.retags 1 cs)::vs)
  |iv {v:IV} {l:List AR} {vs:List IV} (t:LendP hp l vs):LendP hp (.i v::l) (v.retag 1::vs)
section
variable {nt:Nat} {σ:Sl} {hp:Heap} {ct d:Nat} {G:Nat→List IV} {R:Run} {Q:Sl→Heap→Nat→Prop} {l:List Ins}
theorem CapP.ev{caps:List Opd}{cs:List AR}(h:CapP nt σ caps cs):traverse (fun o=>match evσ nt σ o with|.v (.c x)=>capOf x|_=>none) caps=some cs:=by
 induction h with
 |nil=>rfl
 |cons h c _ ih=>rw[traverse_cons,h,ih];simp only[c]
theorem k_mkfn{f:Nat}{caps:List Opd}{cs:List AR}(hc:CapP nt σ caps cs)(n:wpL G R nt l Q (upd σ d (.v (.c (mkClo f cs)))) hp ct):wpL G R nt (.op (some d) none (.mkfn f caps)::l) Q σ hp ct:=by
 refine k_op (v:=.v (.c (mkClo f cs))) (hp':=hp) (ct':=ct) ?_ n;have h0:traverse (fun o=>match ev (mkS nt σ hp ct) o with|.v (.c x)=>capOf x|_=>none) caps=some cs:=by
  have:∀ o,ev (mkS nt σ hp ct) o=evσ nt σ o:=fun o=>ev_mk o;simp only[this];exact hc.ev
 have h1:∀ q:Option (List AR),q=some cs→(match q with|some cs=>some (AV.v (.c (mkClo f cs)),hp,ct)|none=>none)=some (AV.v (.c (mkClo f cs)),hp,ct):=by rintro _ rfl;rfl
 exact h1 _ h0
theorem lend_caps{cs:List AR}{vs:List IV}(h:LendP hp cs vs):traverse (toR true hp []) cs=some (vs.map AR.i):=by
 induction h with
 |nil=>rfl
 |ptr hb _ ih =>
  rename_i b g cs l vs _;have hr:rd (fun b=>(idxOf [] b).isNone) hp 1 rdDepth (.r (.ptr b g 0))=some (.lp 1 cs):=by
   simp only[rdDepth,rd,row_of hb,List.drop_zero,rd_inls,idxOf,Option.isNone_none,if_true]
  have h2:toR true hp [] (.ptr b g 0)=some (.i ((IV.lp 1 cs).retag 1)):=by
   show (match rd (fun b=>(idxOf [] b).isNone) hp 1 rdDepth (.r (.ptr b g 0)) with|some v=>some (AR.i (v.retag 1))|none=>none)=_;rw[hr]
  rw[traverse_cons,ih,h2];rfl
 |iv _ ih=>rw[traverse_cons,ih];rfl
theorem inlR_all(vs:List IV):traverse inlR (vs.map AR.i)=some vs:=by
 induction vs with
 |nil=>rfl
 |cons v vs ih=>rw[List.map_cons,traverse_cons,ih];rfl
theorem lend_clo{f:Nat}{cs:List AR}{vs:List IV}(h:LendP hp cs vs):to1 true hp [] (.c (mkClo f cs))=some (.c (I (.clo f vs))):=by
 have key:toC true hp [] (.clo f cs)=some (I (.clo f vs)):=by
  simp only[toC,lend_caps h,Option.map_some,mkClo,inlR_all]
 unfold mkClo;cases hq:traverse inlR cs with
 |none=>simp only[to1,key,Option.map_some]
 |some ws =>
  have e:∀ {cs:List AR} {ws vs:List IV},traverse inlR cs=some ws→LendP hp cs vs→vs=IV.retags 1 ws:=by
   intro cs ws vs h1 h2;induction h2 generalizing ws with
   |nil=>simp[traverse] at h1;subst h1;rfl
   |ptr hb _ ih=>simp[traverse,inlR] at h1
   |iv _ ih =>
    rw[traverse_cons] at h1;simp only[inlR] at h1;split at h1
    ·simp at h1
    ·rename_i bs hbs
     have h1:=Option.some.inj h1;subst h1;rw[ih hbs];rfl
  rw[e hq h];rfl
theorem k_callv{dd:Option Nat}{f:Nat}{x:Opd}{args:List Opd}{caps:List IV}{as as':List A1}{fr:Bool}{P:List A1→Prop}(hx:evσ nt σ x=.v (.c (I (.clo f caps))))(ha:ArgsP nt σ hp [] args as as')(hc:pc R f (as'++(IV.retags 1 caps).map fun v=>.c (I v)) fr P)
  (hl:fr=true∨(as.any fun a=>a.cells.any (lentC []))=false) (n:∀ vs,P vs→wpL G R nt l Q (updO σ dd (resV vs)) hp ct) :
  wpL G R nt (.op dd none (.callv x args {give:=[],ad:=[],pure:=true})::l) Q σ hp ct:=by
 have hcaps:∀ caps:List IV,traverse (to1 true hp []) (caps.map fun v=>A1.c (I v))=some ((IV.retags 1 caps).map fun v=>.c (I v)):=by
  intro caps;induction caps with
  |nil=>rfl
  |cons v caps ih=>rw[List.map_cons,traverse_cons,ih];rfl
 have htr:∀ {a b c d:List A1},traverse (to1 true hp []) a=some c→traverse (to1 true hp []) b=some d→traverse (to1 true hp []) (a++b)=some (c++d):=by
  intro a b c d h1 h2;induction a generalizing c with
  |nil=>simp[traverse] at h1;subst h1;exact h2
  |cons x a ih =>
   rw[traverse_cons] at h1;split at h1
   ·simp at h1
   ·rename_i y hy
    split at h1
    ·simp at h1
    ·rename_i ys hys
     have h1:=Option.some.inj h1;subst h1;rw[List.cons_append,traverse_cons,hy,ih hys];rfl
 have hlent:((as++caps.map fun v=>A1.c (I v)).any fun a=>a.cells.any (lentC []))=(as.any fun a=>a.cells.any (lentC [])):=by
  rw[List.any_append];have:((caps.map fun v=>A1.c (I v)).any fun a=>a.cells.any (lentC []))=false:=by
   rw[List.any_eq_false];intro a ha;simp at ha;obtain ⟨v,_,rfl⟩:=ha;simp[A1.cells,lentC,lentR]
  rw[this,Bool.or_false]
 obtain ⟨vs,h1,h2⟩:=hc (as.any fun a=>a.cells.any (lentC [])) (fun h=>by rcases hl with hl|hl;exact hl;rw[hl] at h;simp at h);refine k_op (v:=resV vs) (hp':=hp) (ct':=ct) ?_ (n vs h2);simp only[opK,evals_mk,ha.ev.1,ev_mk,hx,doCall,if_true,mkS_hp,mkS_ct];rw[htr ha.ev.2 (hcaps caps)];simp only[hlent];unfold pureCall at h1;split at h1
 ·rename_i rs h e
  rw[e];simp only[h1]
 ·simp at h1
theorem ep_lp(t:Nat)(cs:List IV):ep [] G hp (I (.lp t cs)) (cs.map I):=⟨⟨[],by simp[lookAt]⟩,.inr ⟨_,rfl⟩⟩
def FzC(hp:Heap)(a:AC)(v:IV)(bs P:List Nat):Prop:=refC true a=bs∧(∀ b∈bs,b∈P)∧(∀ b∈bs,∃ (g:Nat) (cs:List IV),hp.get b=some (.cells g (cs.map I)))∧∀ q n,(∀ b∈bs,q b=true)→rd q hp 0 (n+1) a=some v
theorem FzC.iv(v:IV):FzC hp (I v) v [] []:=⟨rfl,by simp,by simp,fun _ _ _=>rd_inl _ _ _ _ _⟩
theorem _root_.Go.Abs.so.fz{α:Type}{E:Rep α}{P:List Nat}{f:Bool}{a:AC}{xs:List α}(hs:so P E f hp a xs):∃ v bs,sv E f v xs∧FzC hp a v bs P:=by
 rcases hs with ⟨rfl,rfl⟩|⟨rfl,rfl⟩|⟨b,g,off,cs,c,hb,rfl,h4,h5,h6,h7⟩
 ·exact ⟨.nilS,[],.inl ⟨rfl,rfl⟩,rfl,by simp,by simp,fun _ _ _=>rd_inl _ _ _ _ _⟩
 ·exact ⟨.emp,[],.inr (.inl ⟨rfl,rfl⟩),rfl,by simp,by simp,fun _ _ _=>rd_inl _ _ _ _ _⟩
 ·refine ⟨.lit 0 c xs.length,[b],.inr (.inr ⟨0,c,rfl,h5,fun _=>rfl⟩),rfl,?_,?_,?_⟩
  ·intro x hx;simp at hx;subst hx;exact hb
  ·intro x hx;simp at hx;subst hx;exact ⟨g,cs,(Heap.row_eq h4).1⟩
  ·intro q n hq;exact rd_rows (hq b (by simp)) h4 h6 h7
inductive FzL(hp:Heap):List AC→List IV→List Nat→List Nat→Prop
  |nil:FzL hp [] [] [] []
  |cons {a:AC} {v:IV} {bs P cs PP:List Nat} {l:List AC} {vs:List IV} (h:FzC hp a v bs P) (t:FzL hp l vs cs PP):FzL hp (a::l) (v::vs) (bs++cs) (P++PP)
theorem FzL.refs{l:List AC}{vs:List IV}{bs PP:List Nat}(h:FzL hp l vs bs PP):l.flatMap (refC true)=bs:=by
 induction h with
 |nil=>rfl
 |cons h _ ih=>rw[List.flatMap_cons,h.1,ih]
theorem FzL.mem{l:List AC}{vs:List IV}{bs PP:List Nat}(h:FzL hp l vs bs PP):(∀ b∈bs,b∈PP)∧∀ b∈bs,∃ (g:Nat) (cs:List IV),hp.get b=some (.cells g (cs.map I)):=by
 induction h with
 |nil=>simp
 |cons h _ ih =>
  refine ⟨fun b hb=>?_,fun b hb=>?_⟩
  ·rcases List.mem_append.1 hb with hb|hb
   ·exact List.mem_append_left _ (h.2.1 b hb)
   ·exact List.mem_append_right _ (ih.1 b hb)
  ·rcases List.mem_append.1 hb with hb|hb
   ·exact h.2.2.1 b hb
   ·exact ih.2 b hb
theorem FzL.rd{l:List AC}{vs:List IV}{bs PP:List Nat}(h:FzL hp l vs bs PP)(q:Nat→Bool)(n:Nat)(hq:∀ b∈bs,q b=true):traverse (rd q hp 0 (n+1)) l=some vs:=by
 induction h with
 |nil=>rfl
 |cons h _ ih=>rw[traverse_cons,h.2.2.2 q n fun b hb=>hq b (List.mem_append_left _ hb),ih fun b hb=>hq b (List.mem_append_right _ hb)]
theorem FzL.deep{l:List AC}{vs:List IV}{bs PP:List Nat}(h:FzL hp l vs bs PP)(n:Nat):refDeep hp (n+1) bs=bs:=by
 have:bs.flatMap (fun b=>match hp.get b with|some (.cells _ cs)=>cs.flatMap (refC true)|_=>[])=[]:=by
  rw[List.flatMap_eq_nil_iff];intro b hb;obtain ⟨g,cs,e⟩:=h.mem.2 b hb;rw[e];show (cs.map I).flatMap (refC true)=[];rw[List.flatMap_eq_nil_iff];intro x hx';simp at hx';obtain ⟨v,_,rfl⟩:=hx';rfl
 have h0:∀ m,refDeep hp m []=[]:=by intro m;induction m with|zero=>rfl|succ m ih=>simp[refDeep,ih]
 have h1:∀ q,q=[]→bs++refDeep hp n q=bs:=by rintro _ rfl;rw[h0,List.append_nil]
 exact h1 _ this
theorem k_frzP{t b0 g:Nat}{cells:List AC}{vs:List IV}{bs PP:List Nat}(hx:(mkS nt σ hp ct).get t=.v (.c (.r (.ptr b0 g 0))))(hb:hp.get b0=some (.cells g cells))(hz:FzL hp cells vs bs PP)(hP:(b0::PP).all (fun b=>decide (b<PB))=true)
  (n:∀ hp',Fr (b0::PP) hp hp'→wpL G R nt l Q (upd σ t (V (.lp 0 vs))) hp' ct):wpL G R nt (.frz t::l) Q σ hp ct:=by
 have hd:refDeep hp 3 [b0]=b0::bs:=by
  have h1:∀ q,q=bs→[b0]++refDeep hp 2 q=b0::bs:=by rintro _ rfl;rw[hz.deep 1];rfl
  refine h1 _ ?_;simp only[List.flatMap_cons,List.flatMap_nil,hb,List.append_nil,hz.refs]
 have hbs:(refDeep hp 3 [b0]).filter (fun x=>decide (x<PB))=b0::bs:=by
  rw[hd,List.filter_eq_self];intro b hb;refine List.all_eq_true.1 hP b ?_;rcases List.mem_cons.1 hb with rfl|hb
  ·exact List.mem_cons_self
  ·exact List.mem_cons_of_mem _ (hz.mem.1 b hb)
 simp only[wpL];refine ⟨upd σ t (V (.lp 0 vs)),delAll hp (b0::bs),ct,?_,n _ (fun q hq=>?_)⟩
 ·have h1:=hz.rd (fun b=>(b0::bs).contains b) 4 (fun b hb=>by simp[hb])
  have h2:rd (fun b=>(b0::bs).contains b) hp 0 rdDepth (.r (.ptr b0 g 0))=some (.lp 0 vs):=by
   have hc:(b0::bs).contains b0=true:=by simp
   simp only[rdDepth,rd,hc,if_true,row_of hb,List.drop_zero,h1]
  have h3:traverse (rd (fun b=>(b0::bs).contains b) hp 0 rdDepth) [.r (.ptr b0 g 0)]=some [.lp 0 vs]:=by rw[traverse_cons,h2];rfl
  simp only[insI,hx,A1.cells,List.flatMap_cons,List.flatMap_nil,refC,refR,List.append_nil,mkS_hp,hbs,h3];exact congrArg some (set_mk t _ _)
 ·rw[Heap.get_delAll,if_neg];intro hin;refine hq ?_
  rcases List.mem_cons.1 hin with rfl|hin
  ·exact List.mem_cons_self
  ·exact List.mem_cons_of_mem _ (hz.mem.1 q hin)
end
def ownC(R:Run)(f:Nat)(as:List A1)(bs:List Blk)(P:List A1→Heap→Prop):Prop:=∃ rs h,R f as bs=some (rs,h)∧P rs h
inductive ResO(nt:Nat)(σ:Sl):List Res→List A1→Prop
  |nil:ResO nt σ [] []
  |tmp {t:Nat} {a:A1} {l:List Res} {vs:List A1} (h:evσ nt σ (.t t)=.v a) (r:ResO nt σ l vs):ResO nt σ (.tmp t::l) (a::vs)
theorem fn_own{G:Nat→List IV}{F:Nat→Option Fn}{X:Run}{f:Nat}{fn:Fn}(hf:F f=some fn){args:List A1}{bs:List Blk}(hn:args.length≤fn.nt){P:List A1→Heap→Prop}
  (h:wpE G (lim G F X) fn.nt fn.body (ini args) (bs.zipIdx.map fun (b,i)=>(PB+i,b)) 1 (atEnd fn.nt fn.res P)):ownC (lim G F X) f args bs P:=fn_wp hf hn h
theorem fn_own0{G:Nat→List IV}{F:Nat→Option Fn}{X:Run}{f:Nat}{fn:Fn}(hf:F f=some fn){args:List A1}(hn:args.length≤fn.nt){P:List A1→Heap→Prop}
  (h:wpE G (lim G F X) fn.nt fn.body (ini args) [] 1 (atEnd fn.nt fn.res P)):ownC (lim G F X) f args [] P:=fn_wp hf hn h
section
variable {nt:Nat} {σ:Sl} {hp:Heap} {ct d:Nat} {G:Nat→List IV} {R:Run} {Q:Sl→Heap→Nat→Prop} {l:List Ins}
theorem ResO.ev{res:List Res}{vs:List A1}(h:ResO nt σ res vs):traverse (readRσ nt σ hp) res=some vs:=by
 induction h with
 |nil=>rfl
 |tmp h _ ih=>rw[traverse_cons,ih];simp only[readRσ,h,AV.one]
theorem e_own{res:List Res}{P:List A1→Heap→Prop}{vs:List A1}(h:ResO nt σ res vs)(hP:P vs hp):atEnd nt res P .ret σ hp ct:=⟨vs,h.ev,hP⟩
theorem e_ownN{res:List Res}{P:List A1→Heap→Prop}{vs:List A1}(h:ResO nt σ res vs)(hP:P vs hp):atEnd nt res P .normal σ hp ct:=⟨vs,h.ev,hP⟩
theorem k_kill{b:Nat}(n:∀ hp',hp'.get b=none→Fr [b] hp hp'→wpL G R nt l Q σ hp' ct):wpL G R nt (.kill [] [b]::l) Q σ hp ct:=by
 simp only[wpL];refine ⟨σ,delAll hp [b],ct,rfl,n _ ?_ fun q hq=>?_⟩
 ·rw[Heap.get_delAll];simp
 ·rw[Heap.get_delAll,if_neg];exact hq
theorem back_ivs(h:Heap)(pl:List (Nat×Nat×Nat))(ts:List IV):traverse (back1 h pl false) (ts.map fun v=>A1.c (I v))=some (ts.map fun v=>A1.c (I v)):=by
 induction ts with
 |nil=>rfl
 |cons v ts ih=>rw[List.map_cons,traverse_cons,ih];rfl
theorem back_row(h:Heap)(pl:List (Nat×Nat×Nat))(ts:List IV):traverse (backC h pl false) (ts.map I)=some (ts.map I):=by
 induction ts with
 |nil=>rfl
 |cons v ts ih=>rw[List.map_cons,traverse_cons,ih];rfl
end
end Go.Abs
namespace Go.Abs
open Go.RowKit
def okIR(P:Program):IR→Code→Bool
  |.ghost l x,c=>l.all (fun x=>!x.isOp)&&okIR P x c
  |.skip,.skip=>true
  |.reg l,.region _ ops draw=>!draw&&okInsL P ops l 0
  |.regD l pre,.region _ ops draw=>draw&&okDraw P ops l pre
  |.seq x y,.seq c d=>okIR P x c&&okIR P y d
  |.cond x p q,.cond y c d=>okOpd y x&&okIR P p c&&okIR P q d
  |.block i x,.block j c=>i==j&&okIR P x c
  |.loop x,.loop c=>okIR P x c
  |.exit i,.exit j=>i==j
  |.ret,.ret=>true
  |_,_=>false
def ExOk:Ex→Exit→Prop
  |.normal,.normal=>True
  |.exit i,.exit j=>i=j
  |.ret,.ret=>True
  |_,_=>False
def Behind(X:Cx)(E:Env)(ex:Ex)(s':St)(e:Exit)(a':Act)(w':World):Prop :=
  ExOk ex e∧∃ E',E'.w=w'∧Rel X E' s' a'∧Ext X E E'∧E.w.heap.size≤w'.heap.size
section
variable {P:Program} {X:Cx} {G:Nat→List IV} {R:Run}
theorem Behind.trans{E E1:Env}{ex:Ex}{s':St}{e:Exit}{a':Act}{w':World}(h:Ext X E E1)(hs:E.w.heap.size≤E1.w.heap.size)(b:Behind X E1 ex s' e a' w'):Behind X E ex s' e a' w':=by
 obtain ⟨h1,E',h2,h3,h4,h5⟩:=b;exact ⟨h1,E',h2,h3,h.trans h4 hs,Nat.le_trans hs h5⟩
theorem exec_sound(hR:RunOk P G R)(hG:GOk X G)(n:Nat):∀ (x:IR) (c:Code) (s s':St) (ex:Ex) (E:Env) (a:Act),okIR P x c=true→exec G R n x s=some (ex,s')→Rel X E s a →
  c.wp P (Behind X E ex s') a E.w
 |.ghost l x,c,s,s',ex,E,a,hk,hs,hr=>by
  simp only[okIR,Bool.and_eq_true] at hk
  simp only[exec] at hs
  split at hs
  ·rename_i s1 hs1
   obtain ⟨E1,h1,h2,h3⟩:=ghosts_sound l s E hk.1 hs1 hr
   have:=exec_sound hR hG n x c s1 s' ex E1 a hk.2 hs h2
   rw[h1] at this
   exact wp_mono this fun e a' w' b=>b.trans h3 (by rw[h1];exact Nat.le_refl _)
  ·simp at hs
 |.skip,c,s,s',ex,E,a,hk,hs,hr=>by
  cases c<;>simp[okIR] at hk
  simp[exec] at hs
  obtain ⟨rfl,rfl⟩:=hs
  exact wp_skip ⟨trivial,E,rfl,hr,Ext.refl X E,Nat.le_refl _⟩
 |.reg l,c,s,s',ex,E,a,hk,hs,hr=>by
  cases c<;>simp[okIR] at hk
  rename_i id ops draw
  obtain ⟨rfl,hk⟩:=hk
  simp only[exec] at hs
  split at hs
  ·rename_i s1 hs1
   simp at hs
   obtain ⟨rfl,rfl⟩:=hs
   refine wp_region ?_
   have:=insL_sound hR hG (Q:=Behind X E .normal s1) l 0 s E a hk (Nat.zero_le _) hs1 hr fun E' a' h1 h2 h3=>⟨trivial,E',rfl,h1,h2,h3⟩
   simpa using this
  ·simp at hs
 |.seq x y,c,s,s',ex,E,a,hk,hs,hr=>by
  cases c<;>simp[okIR] at hk
  rename_i c d
  simp only[exec] at hs
  split at hs
  ·rename_i s1 hs1
   refine wp_seq (wp_mono (exec_sound hR hG n x c s s1 .normal E a hk.1 hs1 hr) ?_)
   rintro e a' w' ⟨he,E1,rfl,h1,h2,h3⟩
   cases e<;>simp[ExOk] at he
   exact wp_mono (exec_sound hR hG n y d s1 s' ex E1 a' hk.2 hs h1) fun e a' w' b=>b.trans h2 h3
  ·rename_i hne
   refine wp_seq (wp_mono (exec_sound hR hG n x c s s' ex E a hk.1 hs hr) ?_)
   rintro e a' w' ⟨he,E1,rfl,h1,h2,h3⟩
   cases e with
   |normal =>
    cases ex<;>simp[ExOk] at he
    exact (hne s' hs).elim
   |_=>exact ⟨he,E1,rfl,h1,h2,h3⟩
 |.cond x p q,c,s,s',ex,E,a,hk,hs,hr=>by
  cases c<;>simp[okIR] at hk
  rename_i y c d
  simp only[exec] at hs
  have r:=ev_sound hr.tr hk.1.1
  split at hs
  ·rename_i hb
   exact wp_cond_true (bool_sound r hb) (exec_sound hR hG n p c s s' ex E a hk.1.2 hs hr)
  ·rename_i hb
   exact wp_cond_false (bool_sound r hb) (exec_sound hR hG n q d s s' ex E a hk.2 hs hr)
  ·simp at hs
 |.block i x,c,s,s',ex,E,a,hk,hs,hr=>by
  cases c<;>simp[okIR] at hk
  rename_i j c
  obtain ⟨rfl,hk⟩:=hk
  simp only[exec] at hs
  split at hs
  ·rename_i i2 s1 hs1
   simp at hs
   obtain ⟨rfl,rfl⟩:=hs
   refine wp_block (wp_mono (exec_sound hR hG n x c s s1 (.exit i2) E a hk hs1 hr) ?_)
   rintro e a' w' ⟨he,E1,rfl,h1,h2,h3⟩
   cases e<;>simp[ExOk] at he
   subst he
   simp only[Exit.inBlock]
   split
   ·exact ⟨trivial,E1,rfl,h1,h2,h3⟩
   ·exact ⟨rfl,E1,rfl,h1,h2,h3⟩
  ·rename_i hne
   refine wp_block (wp_mono (exec_sound hR hG n x c s s' ex E a hk hs hr) ?_)
   rintro e a' w' ⟨he,E1,rfl,h1,h2,h3⟩
   cases e with
   |exit i2 =>
    cases ex<;>simp[ExOk] at he
    exact (hne _ s' hs).elim
   |_=>exact ⟨he,E1,rfl,h1,h2,h3⟩
 |.loop x,c,s,s',ex,E,a,hk,hs,hr=>by
  cases c<;>simp[okIR] at hk
  rename_i c
  simp only[exec] at hs
  have key:∀ (m:Nat) (s:St) (E1:Env) (a:Act),loopN (exec G R n x) m s=some (ex,s')→Rel X E1 s a→Ext X E E1→E.w.heap.size≤E1.w.heap.size→Code.rounds P c (Behind X E ex s') m a E1.w:=by
   intro m
   induction m with
   |zero=>intro s E1 a hs;simp[loopN] at hs
   |succ m ih =>
    intro s E1 a hs hr hE hsz
    simp only[loopN] at hs
    show c.wp P (Exit.then (Code.rounds P c _ m) _) a E1.w
    split at hs
    ·rename_i s1 hs1
     refine wp_mono (exec_sound hR hG n x c s s1 .normal E1 a hk hs1 hr) ?_
     rintro e a' w' ⟨he,E2,rfl,h1,h2,h3⟩
     cases e<;>simp[ExOk] at he
     exact ih s1 E2 a' hs h1 (hE.trans h2 hsz) (Nat.le_trans hsz h3)
    ·rename_i hne
     refine wp_mono (exec_sound hR hG n x c s s' ex E1 a hk hs hr) ?_
     rintro e a' w' b
     have b2:=b.trans hE hsz
     obtain ⟨he,_⟩:=b
     cases e with
     |normal =>
      cases ex<;>simp[ExOk] at he
      exact (hne s' hs).elim
     |_=>exact b2
  exact wp_loop_rounds n (key n s E a hs hr (Ext.refl X E) (Nat.le_refl _))
 |.exit i,c,s,s',ex,E,a,hk,hs,hr=>by
  cases c<;>simp[okIR] at hk
  rename_i j
  subst hk
  simp[exec] at hs
  obtain ⟨rfl,rfl⟩:=hs
  exact wp_exit ⟨rfl,E,rfl,hr,Ext.refl X E,Nat.le_refl _⟩
 |.ret,c,s,s',ex,E,a,hk,hs,hr=>by
  cases c<;>simp[okIR] at hk
  simp[exec] at hs
  obtain ⟨rfl,rfl⟩:=hs
  exact wp_ret ⟨trivial,E,rfl,hr,Ext.refl X E,Nat.le_refl _⟩
 |.regD l pre,c,s,s',ex,E,a,hk,hs,hr=>by
  cases c<;>simp[okIR] at hk
  rename_i id ops draw
  obtain ⟨rfl,hk⟩:=hk
  simp only[exec] at hs
  split at hs
  ·rename_i ss hh ht
   split at hs
   ·rename_i hdyn
    split at hs
    ·rename_i s1 hl
     simp at hs
     obtain ⟨rfl,rfl⟩:=hs
     exact draw_sound hR hG hk ht hdyn hl hr fun E' a' h1 h2 h3=>⟨trivial,E',rfl,h1,h2,h3⟩
    ·simp at hs
   ·simp at hs
  ·simp at hs
end
def okRes(P:Program):List ResultVar→List Res→Bool
  |[],[]=>true
  |.tmp t::l,.tmp t'::m=>t==t'&&okRes P l m
  |.cell a t::l,.cell a' n agg::m=>a==a'&&tyOk P t n agg&&okRes P l m
  |_,_=>false
def okFn(P:Program)(f:Nat)(fn:Fn):Bool :=
  match P.funcs[f]? with
  |some g=>match g.body with
    | some c=>g.ntmps == fn.nt && okRes P g.results.toList fn.res && okIR P fn.body c && g.name != "runtime.NumGoroutine"
    |none=>false
  |none=>false
section
variable {P:Program} {X:Cx} {E:Env} {s:St} {a:Act} {G:Nat→List IV} {R:Run}
def resOne(a:Act):ResultVar→Sem Value
  |.tmp t=>pure (a.tmps.getD t undef)
  |.cell b t=>do loadVar t (← asAddr (a.tmps.getD b undef))
theorem get_sound(h:TR X E s a){t:Nat}{w:A1}(e:s.get t=.v w):A1R X E w (a.tmps.getD t undef):=by
 unfold St.get at e;rw[List.getD_eq_getElem?_getD] at e;cases hq:s.tm[t]? with
 |none=>rw[hq] at e;simp at e
 |some q=>rw[hq] at e;simp at e;have:=h.at_ t q hq;rw[e] at this;exact this
theorem res_list(hr:Rel X E s a):∀ {l:List ResultVar} {m:List Res} {rs:List A1},okRes P l m=true→traverse (readRes s) m=some rs →
  ∃ vs,(l.mapM (resOne a)).run P E.w=.ok vs E.w∧All2 (A1R X E) rs vs
 |[],[],rs,_,e=>by simp[traverse] at e;subst e;exact ⟨[],by simp,.nil⟩
 |.tmp t::l,.tmp t'::m,rs,h,e=>by
  simp[okRes] at h
  obtain ⟨rfl,h⟩:=h
  simp only[traverse] at e
  split at e
  ·simp at e
  ·rename_i b hb
   split at e
   ·simp at e
   ·rename_i bs hbs
    simp at e
    subst e
    obtain ⟨vs,h1,h2⟩:=res_list hr h hbs
    have hg:s.get t=.v b:=by
     simp only[readRes] at hb
     cases hq:s.get t<;>rw[hq] at hb<;>simp[AV.one] at hb
     rw[hb]
    exact ⟨_::vs,by simp[List.mapM_cons,resOne,h1],.cons (get_sound hr.tr hg) h2⟩
 |.cell b t::l,.cell b' n agg::m,rs,h,e=>by
  simp[okRes] at h
  obtain ⟨⟨rfl,hty⟩,h⟩:=h
  simp only[traverse] at e
  split at e
  ·simp at e
  ·rename_i r hrr
   split at e
   ·simp at e
   ·rename_i bs hbs
    simp at e
    subst e
    obtain ⟨vs,h1,h2⟩:=res_list hr h hbs
    simp only[readRes] at hrr
    split at hrr
    ·rename_i bb g off hg
     split at hrr
     ·rename_i cs hrow
      split at hrr
      ·rename_i cs' hcs
       have hv:=get_sound hr.tr hg
       rw[← hr.h] at hrow
       have hlk:lookAt (fun _=>[]) E.h (.r (.ptr bb g off))=some (cs.drop off):=by simp[lookAt,hrow]
       have hG0:GOk X (fun _=>[]):=fun g hg=>absurd rfl hg
       obtain ⟨ad,ws,q1,q2,q3,q4⟩:=look_view hr.wr hG0 (p:=.r (.ptr bb g off)) hv hlk hcs
       have hl:=run_loadVar_cells hty E.w ad ws q2 q4
       refine ⟨valOf agg ws::vs,?_,.cons (mk1_sound q3 hrr) h2⟩
       simp[List.mapM_cons,resOne,q1,asAddr,hl,h1]
      ·simp at hrr
     ·simp at hrr
    ·simp at hrr
 |[],_::_,_,h,_=>by simp[okRes] at h
 |.tmp _::_,[],_,h,_=>by simp[okRes] at h
 |.cell _ _::_,[],_,h,_=>by simp[okRes] at h
 |.tmp _::_,.cell _ _ _::_,_,h,_=>by simp[okRes] at h
 |.cell _ _::_,.tmp _::_,_,h,_=>by simp[okRes] at h
theorem results_sound(hr:Rel X E s a){g:Func}{m:List Res}{rs:List A1}(h:okRes P g.results.toList m=true)(e:traverse (readRes s) m=some rs) :
  ∃ vs,(results g a.tmps).run P E.w=.ok (retV vs) E.w∧All2 (A1R X E) rs vs:=by
 obtain ⟨vs,h1,h2⟩:=res_list hr h e;refine ⟨vs,?_,h2⟩;have e1:results g a.tmps=(g.results.mapM (resOne a)) >>= fun vs=>Pure.pure (if h:vs.size=1 then vs[0] else .tuple vs):=by
  unfold results;congr 1
 rw[e1,Array.mapM_eq_mapM_toList];simp only[Sem.run_bind,Sem.run_map,h1,Result.andThen_ok,Sem.run_pure];congr 1;match vs with
 |[]=>rfl
 |[x]=>rfl
 |x::y::l=>simp[retV]
theorem run_sound{F:Nat→Option Fn}{Xr:Run}(hF:∀ f fn,F f=some fn→okFn P f fn=true)(hX:RunOk P G Xr)(n:Nat):∀ d,RunOk P G (run G F Xr n d)
 |0=>fun f args bs rs h e=>by simp[run] at e
 |d+1=>by
  intro f args bs rs h e X ids E0 lent cargs X' E hW hG ha
  simp only[run] at e
  split at e
  ·exact hX f args bs rs h e X ids E0 lent cargs hW hG ha
  ·rename_i fn hfn
   have hok:=hF f fn hfn
   unfold okFn at hok
   split at hok
   ·rename_i g hg
    split at hok
    ·rename_i c hc
     simp at hok
     obtain ⟨⟨⟨hnt,hres⟩,hir⟩,hname⟩:=hok
     refine .inl ⟨?_,?_⟩
     ·simp[callFunc,hg,hname,hc]
     ·have hl:=ha.length
      have hr0:Rel X' E (start fn args bs) {tmps:=cargs.toArray++Array.replicate (g.ntmps-cargs.toArray.size) undef,defers:=[]}:=by
       refine ⟨rfl,rfl,hW,rfl,?_,fun i v hv=>?_⟩
       ·simp[start,hnt,hl]
       ·simp only[start] at hv
        by_cases hi:i<args.length
        ·rw[List.getElem?_append_left (by simpa using hi),List.getElem?_map] at hv
         cases hq:args[i]? with
         |none=>simp[hq] at hv
         |some z =>
          simp[hq] at hv
          subst hv
          obtain ⟨w,hw,hrw⟩:=ha.get i z hq
          have hi2:i<cargs.length:=by omega
          have hw2:cargs[i]=w:=by
           have:=List.getElem?_eq_getElem hi2
           rw[hw] at this;simpa using this.symm
          have:(cargs.toArray++Array.replicate (g.ntmps-cargs.toArray.size) undef).getD i undef=w:=by
           rw[Array.getD_eq_getD_getElem?,Array.getElem?_append_left (by simpa using hi2)]
           simp[hi2,hw2]
          rw[this]
          exact hrw
        ·rw[List.getElem?_append_right (by simpa using Nat.le_of_not_lt hi)] at hv
         rw[List.getElem?_replicate] at hv
         split at hv
         ·simp at hv;subst hv;trivial
         ·simp at hv
      have hdone:∀ (ex:Ex) (s1:St),exec G (run G F Xr n d) n fn.body (start fn args bs)=some (ex,s1)→(∀ i,ex≠.exit i)→traverse (readRes s1) fn.res=some rs→s1.hp=h →
        Calls P f cargs.toArray E.w fun e w'=>∃ v,e=.returned v∧∃ E',E'.w=w'∧E'.h=h∧WR X' E'∧Ext X' E E'∧∃ vs,All2 (A1R X' E') rs vs∧v=retV vs:=by
       intro ex s1 he hne hrs hh
       refine calls_of_wp hg hc (wp_mono (exec_sound (run_sound hF hX n d) hG n fn.body c _ s1 ex E _ hir he hr0) ?_)
       rintro e a' w' ⟨h1,E',rfl,h2,h3,h4⟩
       obtain ⟨vs,q1,q2⟩:=results_sound h2 hres hrs
       have fin:a'.defers=[]∧∃ v,(results g a'.tmps).run P E'.w=.ok v E'.w∧∃ v',Ending.returned v=.returned v'∧∃ E'',E''.w=E'.w∧E''.h=h∧WR X' E''∧Ext X' E E''∧∃ vs,All2 (A1R X' E'') rs vs∧v'=retV vs :=
        ⟨h2.tr.defers,_,q1,_,rfl,E',rfl,by rw[h2.h,hh],h2.wr,h3,vs,q2,rfl⟩
       cases ex with
       |normal=>cases e<;>simp[ExOk] at h1;exact fin
       |ret=>cases e<;>simp[ExOk] at h1;exact fin
       |exit i=>exact absurd rfl (hne i)
      split at e
      ·simp at e
      ·rename_i ex s1 hne he
       split at e
       ·rename_i rs' hrs
        simp at e
        obtain ⟨rfl,rfl⟩:=e
        exact hdone ex s1 he (fun i q=>hne i (by rw[← q])) hrs rfl
       ·simp at e
      ·simp at e
    ·simp at hok
   ·simp at hok
end
end Go.Abs
namespace Go.Abs
open Go.RowKit Go.Sort
structure XT(α:Type) where
  cell:α→AC
  of:AC→Option α
  enc:α→Value
  of_is:∀ {a x},of a=some x→a=cell x
  rel:∀ {X E x v},CC X E (cell x) v→v=enc x
  ler:∀ X E x,CC X E (cell x) (enc x)
def XT.str:XT (List UInt8) where
  cell l:=I (.str l)
  of|.r (.i (.str l))=>some l
     |_=>none
  enc l:=.string ⟨l.toArray⟩
  of_is:=by intro a x h;split at h<;>simp at h;subst h;rfl
  rel:=by intro X E x v r;have r2:VR _ _ _ _:=r;cases r2;rename_i s h;subst h;rfl
  ler:=fun X E x=>VR.str _ _ rfl
def XT.i64:XT Int where
  cell n:=I (.int .i64 n)
  of|.r (.i (.int .i64 n))=>some n
     |_=>none
  enc n:=.int .i64 n
  of_is:=by intro a x h;split at h<;>simp at h;subst h;rfl
  rel:=by intro X E x v r;have r2:VR _ _ _ _:=r;cases r2;rfl
  ler:=fun X E x=>VR.int _ _
section
variable {α:Type} [Inhabited α] {X:Cx} {E:Env}
theorem row_holds(T:XT α)(hW:WR X E){b g off n:Nat}{cs:List AC}{zs:List α}(hrow:E.h.row b g=some cs)(hfit:off+n≤cs.length)(hoff:(E.m b).2≤off)(e:traverse T.of ((cs.drop off).take n)=some zs) :
  zs.length=n∧Holds T.enc E.w (E.m b).1 (off-(E.m b).2) zs.toArray:=by
 obtain ⟨hget,hcur⟩:=Heap.row_eq hrow;obtain ⟨⟨cc,ee,fr,r1,r2,r3,r4⟩,_,_⟩:=hW.blk b _ hget;have hl:zs.length=n:=by
  have:=traverse_length e
  rw[List.length_take,List.length_drop] at this;omega
 refine ⟨hl,fun j hj=>?_⟩;have hj:j<zs.length:=by simpa using hj
 obtain ⟨a,ha,hb⟩:=traverse_get e j zs[j] (by simp[hj]);have ha2:cs[off+j]?=some a:=by
  rw[List.getElem?_take_of_lt (by omega),List.getElem?_drop] at ha;exact ha
 obtain ⟨v,hv,hr⟩:=r4 (off+j) a (by omega) ha2;have h1:=T.of_is hb;subst h1;have h2:=T.rel hr;subst h2;have e1:off+j-(E.m b).2=off-(E.m b).2+j:=by omega
 rw[e1] at hv;refine ⟨?_,?_⟩
 ·rw[cell_of_heap r1,hv]
  simp[hj]
 ·exact frozen_no r1 r2 (Array.getElem?_eq_some_iff.1 hv).1
theorem row_put(T:XT α)(hW:WR X E){b g off:Nat}{cs:List AC}(ys:List α)(hrow:E.h.row b g=some cs)(hfit:off+ys.length≤cs.length)(hoff:(E.m b).2≤off)(q:Nat)(os:Array Obj) :
    ∃ E',E'.w=grow (putRow T.enc (Sort.ahead E.w q) (E.m b).1 (off-(E.m b).2) ys.toArray) os∧E'.h=E.h.set b (.cells g (lay cs off (ys.map T.cell)))∧E'.m=E.m∧E'.ct=E.ct∧WR X E'∧Ext X E E':=by
  obtain ⟨hget,hcur⟩:=Heap.row_eq hrow
  obtain ⟨⟨cc,e,fr,r1,r2,r3,r4⟩,hgen,_⟩:=hW.blk b _ hget
  have hlt:=(Array.getElem?_eq_some_iff.1 r1).1
  have hfit':off+(ys.map T.cell).length≤cs.length:=by simpa using hfit
  have hw:∀ k,k<E.w.heap.size→(grow (putRow T.enc (Sort.ahead E.w q) (E.m b).1 (off-(E.m b).2) ys.toArray) os).heap[k]?=if (E.m b).1=k then (E.w.heap[k]?).map (onCells (putCells T.enc (off-(E.m b).2) ys.toArray)) else E.w.heap[k]?:=by
    intro k hk
    show ((E.w.heap.modify (E.m b).1 _)++os)[k]?=_
    rw[Array.getElem?_append_left (by simpa using hk),Array.getElem?_modify]
  have hcell:(grow (putRow T.enc (Sort.ahead E.w q) (E.m b).1 (off-(E.m b).2) ys.toArray) os).heap[(E.m b).1]?=some (.cells (putCells T.enc (off-(E.m b).2) ys.toArray cc) e fr):=by
    rw[hw _ hlt,if_pos rfl,r1];rfl
  have hsz:(putCells T.enc (off-(E.m b).2) ys.toArray cc).size=cc.size:=by simp[putCells]
  have hP:Put X E {E with h:=E.h.set b (.cells g (lay cs off (ys.map T.cell))),w:=grow (putRow T.enc (Sort.ahead E.w q) (E.m b).1 (off-(E.m b).2) ys.toArray) os} b (.cells g (lay cs off (ys.map T.cell))) (E.m b).1 :=
    { h:=rfl,ct:=Nat.le_refl _,gen:=hgen,m:=fun _ _=>rfl
      size:=by
        show E.w.heap.size≤((E.w.heap.modify (E.m b).1 _)++os).size
        simp
      heap:=fun k hk hne=>by rw[hw k hk,if_neg (Ne.symm hne)]
      c0:=.inr ⟨by simp[hget],rfl⟩,at_:=.inr ⟨by simp[hget],rfl⟩
      old:=fun _=>⟨hcur,rfl,fun cc2 e2 fr2 h2=>by
        rw[r1] at h2
        injection h2 with h2
        injection h2 with h2 h3 h4
        exact ⟨_,e,fr,hcell,by rw[hsz,h2]⟩⟩
      os:=rfl,tape:=rfl,output:=rfl }
  have hE:=hP.ext hW
  refine ⟨{E with h:=E.h.set b (.cells g (lay cs off (ys.map T.cell))),w:=grow (putRow T.enc (Sort.ahead E.w q) (E.m b).1 (off-(E.m b).2) ys.toArray) os},rfl,rfl,rfl,rfl,hP.wr hW ?_,hE⟩
  refine ⟨_,e,fr,hcell,by rw[hsz];exact r2,by rw[lay_length hfit'];exact r3,fun i x hi hx=>?_⟩
  simp only at hi ⊢
  rw[lay_get hfit'] at hx
  have hput:(putCells T.enc (off-(E.m b).2) ys.toArray cc)[i-(E.m b).2]?=(cc[i-(E.m b).2]?).map fun x=>if off-(E.m b).2≤i-(E.m b).2∧i-(E.m b).2<off-(E.m b).2+ys.toArray.size then T.enc ys.toArray[i-(E.m b).2-(off-(E.m b).2)]! else x:=by
    simp[putCells,Array.getElem?_mapIdx]
  have hin:i<cs.length→∃ v0,cc[i-(E.m b).2]?=some v0:=fun hi2=>by
    obtain ⟨v0,hv0,_⟩:=r4 i cs[i] hi (by simp[hi2])
    exact ⟨v0,hv0⟩
  split at hx
  · rename_i h1
    rw[List.length_map] at h1
    obtain ⟨v0,hv0⟩:=hin (by omega)
    have hk:i-off<ys.length:=by omega
    rw[List.getElem?_map,List.getElem?_eq_getElem hk,Option.map_some] at hx
    have hx:=Option.some.inj hx
    subst hx
    refine ⟨T.enc ys[i-off],?_,T.ler _ _ _⟩
    rw[hput,hv0,Option.map_some,if_pos ⟨by omega,by simp;omega⟩]
    have:i-(E.m b).2-(off-(E.m b).2)=i-off:=by omega
    rw[this]
    simp[hk]
  · rename_i h1
    obtain ⟨v,hv,hr⟩:=r4 i x hi hx
    refine ⟨v,?_,hr.ext hE⟩
    rw[List.length_map] at h1
    rw[hput,hv,Option.map_some,if_neg (by simp;omega)]
def hpOf(bs:List Blk):Heap:=bs.zipIdx.map fun (b,i)=>(PB+i,b)
omit [Inhabited α] in
theorem Heap.set_same{b:Nat}{x:Blk}:∀ {h:Heap},h.get b=some x→h.set b x=h
 |[],e=>by simp[Heap.get] at e
 |(k,y)::h,e=>by
  simp only[Heap.get] at e
  simp only[Heap.set]
  split at e
  ·rename_i hk
   have e:=Option.some.inj e
   subst e
   rw[if_pos hk]
  ·rename_i hk
   rw[if_neg hk,Heap.set_same e]
def xRow(T:XT α)(new:List α→List α)(len:List α→Option Nat):List A1→List Blk→Option (List A1×Heap)
  |[.c (.r (.i .nilS))],bs=>some (match len [] with|some _=>[.c (I .nilS)]|none=>[],hpOf bs)
  |[.c (.r (.i .emp))],bs=>some (match len [] with|some _=>[.c (I .emp)]|none=>[],hpOf bs)
  |[.c (.r (.sl b g off sz n))],bs=>if b=PB∧sz=1∧n≤1000000000 then
      match (hpOf bs).row PB g with
      |some cs=>if off+n≤cs.length then match traverse T.of ((cs.drop off).take n) with
        |some zs=>some (match len zs with|some m=>[.c (.r (.sl PB g off 1 m))]|none=>[],(hpOf bs).set PB (.cells g (lay cs off ((new zs).map T.cell))))
        |none=>none
        else none
      |none=>none
    else none
  |_,_=>none
structure RowC(P:Program)(f:Nat)(T:XT α)(new:List α→List α)(len:List α→Option Nat):Prop where
  enter:∀ args w,(callFunc f args).run P w=.ok (.enter f args) w
  row:∀ (blk off cap:Nat) (zs:List α) (w:World),Holds T.enc w blk off zs.toArray→blk<w.heap.size→zs.length≤1000000000→zs.length≤cap →
    Calls P f #[.slice (some ⟨blk,off,none⟩) zs.length cap] w fun e w'=>e=.returned (match len zs with|some m=>.slice (some ⟨blk,off,none⟩) m cap|none=>.tuple #[])∧∃ n os,w'=grow (putRow T.enc (Sort.ahead w n) blk off (new zs).toArray) os
  empty:∀ (p:Option Addr) (cap:Nat) (w:World),Calls P f #[.slice p 0 cap] w fun e w'=>e=.returned (match len [] with|some _=>.slice p 0 cap|none=>.tuple #[])∧w'=w
  same:∀ zs,(new zs).length=zs.length
  le:∀ zs m,len zs=some m→m≤zs.length
theorem row_ok1{P:Program}{f:Nat}{T:XT α}{new:List α→List α}{len:List α→Option Nat}(hC:RowC P f T new len){bs:List Blk}{rs:List A1}{h:Heap}
  (X:Cx) (ids:List Nat) (E0:Env) (lent:Bool) (cargs:List Value) {g off n:Nat} {cs:List AC} {zs:List α} :
  let X':=calleeX X E0 ids lent;let E:=calleeE E0 ids bs
  WR X' E→All2 (A1R X' E) [.c (.r (.sl PB g off 1 n))] cargs→n≤1000000000→(hpOf bs).row PB g=some cs→off+n≤cs.length→traverse T.of ((cs.drop off).take n)=some zs →
  some (match len zs with|some m=>[A1.c (.r (.sl PB g off 1 m))]|none=>[],(hpOf bs).set PB (.cells g (lay cs off ((new zs).map T.cell))))=some (rs,h) →
  CallOk P f cargs.toArray E.w fun v w'=>∃ E',E'.w=w'∧E'.h=h∧WR X' E'∧Ext X' E E'∧∃ vs,All2 (A1R X' E') rs vs∧v=retV vs:=by
 intro X' E hW ha hn hrow0 hfit hz e;have e:=Option.some.inj e;have e1:=(Prod.mk.inj e).1;have e2:=(Prod.mk.inj e).2;subst e2;obtain ⟨u,rfl,h1⟩:∃ u,cargs=[u]∧RR X' E (.sl PB g off 1 n) u:=by
  cases ha with
  |cons h1 h2=>cases h2;exact ⟨_,rfl,h1⟩
 have hrow:E.h.row PB g=some cs:=hrow0;have hcur:=(Heap.row_eq hrow).2;obtain ⟨o1,o2,o3⟩:=id h1;obtain ⟨k3,o4⟩:=o3 hcur;obtain ⟨hl,hH⟩:=row_holds T hW hrow hfit k3 hz;have hblk:(E.m PB).1<E.w.heap.size:=hW.lt (Heap.row_eq hrow).1
 -- nothing in it
 have zero:∀ p cap,n=0→u=.slice p 0 cap→CallOk P f [u].toArray E.w fun v w'=>∃ E',E'.w=w'∧E'.h=(hpOf bs).set PB (.cells g (lay cs off ((new zs).map T.cell)))∧WR X' E'∧Ext X' E E'∧∃ vs,All2 (A1R X' E') rs vs∧v=retV vs:=by
  rintro p cap rfl rfl;have hz0:zs=[]:=List.length_eq_zero_iff.1 hl;subst hz0;have hn0:new []=[]:=List.length_eq_zero_iff.1 (by rw[hC.same];rfl);refine .inl ⟨hC.enter _ _,(hC.empty p cap E.w).mono ?_⟩;rintro e w' ⟨rfl,rfl⟩;refine ⟨_,rfl,E,rfl,?_,hW,Ext.refl _ _,?_⟩
  ·rw[hn0]
   have e3:lay cs off (List.map T.cell [])=cs:=by simp[lay,List.take_append_drop]
   rw[e3];exact (Heap.set_same (Heap.row_eq hrow0).1).symm
  ·rw[← e1]
   cases hlen:len [] with
   |none=>exact ⟨[],.nil,rfl⟩
   |some m =>
    have:m=0:=by have:=hC.le [] m hlen;simpa using this
    subst this;exact ⟨[.slice p 0 cap],.cons h1 .nil,rfl⟩
 rcases o4 with ⟨cap,rfl,hcap⟩|⟨h0,a,hu⟩
 ·by_cases h0:n=0
  ·exact zero _ _ h0 (by rw[h0])
  ·have hrun:=hC.row (E.m PB).1 (off-(E.m PB).2) cap zs E.w hH hblk (by omega) (by rw[hl];exact hcap.1)
   rw[hl] at hrun;refine .inl ⟨hC.enter _ _,hrun.mono ?_⟩;rintro e w' ⟨rfl,q,os,rfl⟩;obtain ⟨E',f1,f2,f3,f4,f5,f6⟩:=row_put T hW (new zs) hrow (by rw[hC.same,hl];exact hfit) k3 q os;refine ⟨_,rfl,E',f1,f2,f5,f6,?_⟩;rw[← e1];cases hlen:len zs with
   |none=>exact ⟨[],.nil,rfl⟩
   |some m =>
    have hm:=hC.le zs m hlen;refine ⟨[.slice (some ⟨(E.m PB).1,off-(E.m PB).2,none⟩) m cap],.cons ?_ .nil,rfl⟩;have h1':RR X' E' (.sl PB g off 1 n) (.slice (some ⟨(E.m PB).1,off-(E.m PB).2,none⟩) n cap):=RR.ext f6 h1;obtain ⟨_,p2,p3⟩:=h1';refine ⟨rfl,p2,fun hc=>?_⟩;obtain ⟨p3,p4⟩:=p3 hc;refine ⟨p3,.inl ⟨cap,by rw[f3],?_⟩⟩;rcases p4 with ⟨cap2,p4,p5⟩|⟨p4,_⟩
    ·injection p4 with p6 p7 p8
     subst p8;exact ⟨by have:=p5.1;omega,p5.2⟩
    ·omega
 ·exact zero _ _ h0 hu
theorem row_ok{P:Program}{G:Nat→List IV}{f:Nat}{T:XT α}{new:List α→List α}{len:List α→Option Nat}(hC:RowC P f T new len){args:List A1}{bs:List Blk}{rs:List A1}{h:Heap}(e:xRow T new len args bs=some (rs,h))
  (X:Cx) (ids:List Nat) (E0:Env) (lent:Bool) (cargs:List Value):let X':=calleeX X E0 ids lent;let E:=calleeE E0 ids bs
  WR X' E→GOk X' G→All2 (A1R X' E) args cargs →
  CallOk P f cargs.toArray E.w fun v w'=>∃ E',E'.w=w'∧E'.h=h∧WR X' E'∧Ext X' E E'∧∃ vs,All2 (A1R X' E') rs vs∧v=retV vs:=by
 intro X' E hW _ ha;unfold xRow at e;split at e
 ·-- nil
  obtain ⟨u,rfl,h1⟩:∃ u,cargs=[u]∧VR (okc X' E) E.w.heap .nilS u:=by
   cases ha with
   |cons h1 h2=>cases h2;exact ⟨_,rfl,h1⟩
  cases h1
  have e:=Option.some.inj e;have e1:=(Prod.mk.inj e).1;have e2:=(Prod.mk.inj e).2;subst e2;refine .inl ⟨hC.enter _ _,(hC.empty none 0 E.w).mono ?_⟩;rintro e w' ⟨rfl,rfl⟩;refine ⟨_,rfl,E,rfl,rfl,hW,Ext.refl _ _,?_⟩;rw[← e1];cases len [] with
  |none=>exact ⟨[],.nil,rfl⟩
  |some m=>exact ⟨[.slice none 0 0],.cons VR.nilS .nil,rfl⟩
 ·-- empty
  obtain ⟨u,rfl,h1⟩:∃ u,cargs=[u]∧VR (okc X' E) E.w.heap .emp u:=by
   cases ha with
   |cons h1 h2=>cases h2;exact ⟨_,rfl,h1⟩
  cases h1
  rename_i a;have e:=Option.some.inj e;have e1:=(Prod.mk.inj e).1;have e2:=(Prod.mk.inj e).2;subst e2;refine .inl ⟨hC.enter _ _,(hC.empty (some a) 0 E.w).mono ?_⟩;rintro e w' ⟨rfl,rfl⟩;refine ⟨_,rfl,E,rfl,rfl,hW,Ext.refl _ _,?_⟩;rw[← e1];cases len [] with
  |none=>exact ⟨[],.nil,rfl⟩
  |some m=>exact ⟨[.slice (some a) 0 0],.cons (VR.emp a) .nil,rfl⟩
 ·rename_i b g off sz n
  split at e
  ·rename_i hc
   obtain ⟨rfl,rfl,hn⟩:=hc;split at e
   ·rename_i cs hrow
    split at e
    ·rename_i hfit
     split at e
     ·rename_i zs hz
      exact row_ok1 hC X ids E0 lent cargs hW ha hn hrow hfit hz e
     ·simp at e
    ·simp at e
   ·simp at e
  ·simp at e
 ·simp at e
end
def srtS(l:List (List UInt8)):List (List UInt8):=l.mergeSort fun x y=>decide (x≤y)
def srtI(l:List Int):List Int:=l.mergeSort fun x y=>decide (x≤y)
def cpR{α:Type}[Inhabited α][DecidableEq α](z:α)(l:List α):List α:=Lib.compact l++List.replicate (l.length-(Lib.compact l).length) z
end Go.Abs
namespace Go.Abs
open Go.RowKit
inductive XK where
  |ixb|cmp|trim|atoi|rep|srtS|srtI|cpS|cpI|cont (g:Nat)|vstr (g3 g4:Nat)
  deriving DecidableEq
def XK.ext:XK→Option (Nat⊕Nat×Nat)
  |.cont g=>some (.inl g)
  |.vstr g3 g4=>some (.inr (g3,g4))
  |_=>none
def utf1:List Int:=(List.range 256).map fun c=>(Lib.firstT c:Int)
def utf2:List Int:=(List.range 32).map fun i=>if i % 2=0 then (Lib.accLo (i / 2):Int) else (Lib.accHi (i / 2):Int)
def trimOk(s cs:List UInt8):Bool:=decide (s.length≤9223372036854775807)&&decide (cs.length<4294967281)&&cs.all fun b=>decide (b.toNat<128)
def xRun(k:Nat→Option XK):Run:=fun f args bs =>
  match k f,args,bs with
  |some .ixb,[.c (.r (.i (.str s))),.c (.r (.i (.int .u8 n)))],[]=>some ([.c (I (.int .i64 (Lib.indexByte s n.toNat.toUInt8)))],[])
  |some .cmp,[.c (.r (.i (.str s))),.c (.r (.i (.str t)))],[]=>some ([.c (I (.int .i64 (Lib.compareBytes s t)))],[])
  |some .trim,[.c (.r (.i (.str s))),.c (.r (.i (.str cs)))],[]=>if trimOk s cs then some ([.c (I (.str (Lib.trimS s cs)))],[]) else none
  |some .atoi,[.c (.r (.i (.str s)))],[]=>if s.length≤18 then match Lib.atoi s with
    |some n=>some ([.c (I (.int .i64 n)),.c (I .nilI)],[])
    |none=>none
    else none
  |some .rep,[.c (.r (.i (.str s))),.c (.r (.i (.int .i64 n)))],[]=>if 0≤n∧n≤1000000∧s.length*n.toNat≤1000000 then some ([.c (I (.str (Lib.repeatL s n.toNat)))],[]) else none
  |some .srtS,args,bs=>xRow XT.str srtS (fun _=>none) args bs
  |some .srtI,args,bs=>xRow XT.i64 srtI (fun _=>none) args bs
  |some .cpS,args,bs=>xRow XT.str (cpR []) (fun l=>some (Lib.compact l).length) args bs
  |some .cpI,args,bs=>xRow XT.i64 (cpR 0) (fun l=>some (Lib.compact l).length) args bs
  |some (.cont _),[.c (.r (.i (.str s))),.c (.r (.i (.str t)))],[]=>if s.length<4294967281 then some ([.c (I (.bool (Lib.contains s t)))],[]) else none
  |some (.vstr _ _),[.c (.r (.i (.str s)))],[]=>if s.length≤9223372036854775807 then some ([.c (I (.bool (Lib.validD s)))],[]) else none
  |_,_,_=>none
def XK.fn:XK→Array Value→Sem Value
  |.ixb=>Extern.BytealgIndexByte.indexByte
  |.cmp=>Extern.BytealgCompare.compare
  |.trim=>fun _=>pure (.bool false)
  |.atoi=>fun _=>pure (.bool false)
  |.rep=>fun _=>pure (.bool false)
  |_=>fun _=>pure (.bool false)
def contOk(P:Program)(f g:Nat):Prop:=(∀ args w,(callFunc f args).run P w=.ok (.enter f args) w) ∧
  ∀ (s t:ByteArray) (m:Int) (w:World),s.size<4294967281→w.cell? ⟨g,0,none⟩=some (.int .i64 m) →
    Calls P f #[.string s,.string t] w fun e w'=>e=.returned (.bool (Lib.contains s.data.toList t.data.toList))∧w'=w
def vstrOk(P:Program)(f g3 g4:Nat):Prop:=(∀ args w,(callFunc f args).run P w=.ok (.enter f args) w) ∧
  ∀ (s:ByteArray) (w:World),s.size≤9223372036854775807→(∀ i,i<256→w.cell? ⟨g3,i,none⟩=some (.int .u8 (utf1.getD i 0)))→(∀ i,i<32→w.cell? ⟨g4,i,none⟩=some (.int .u8 (utf2.getD i 0))) →
    Calls P f #[.string s] w fun e w'=>e=.returned (.bool (Lib.validD s.data.toList))∧Below w.heap.size w w'
def XOk(P:Program)(f:Nat)(k:XK):Prop:=match k.ext with
  |some (.inl g)=>contOk P f g
  |some (.inr (g3,g4))=>vstrOk P f g3 g4
  |none=>if k=.trim then (∀ args w,(callFunc f args).run P w=.ok (.enter f args) w) ∧
    ∀ (s cs:ByteArray) (w:World),s.size≤9223372036854775807→cs.size<4294967281→(∀ (j:Nat) b,cs.data.toList[j]?=some b→b.toNat<128) →
      Calls P f #[.string s,.string cs] w fun e w'=>e=.returned (.string ⟨(Lib.trimS s.data.toList cs.data.toList).toArray⟩)∧Below w.heap.size w w'
  else if k=.atoi then (∀ args w,(callFunc f args).run P w=.ok (.enter f args) w) ∧
    ∀ (s:ByteArray) (n:Int) (w:World),s.size≤18→Lib.atoi s.data.toList=some n →
      Calls P f #[.string s] w fun e w'=>e=.returned (.tuple #[.int .i64 n,.nilIface])∧Below w.heap.size w w'
  else if k=.rep then (∀ args w,(callFunc f args).run P w=.ok (.enter f args) w) ∧
    ∀ (s:ByteArray) (c:Nat) (w:World),c≤1000000→s.size*c≤1000000 →
      Calls P f #[.string s,.int .i64 c] w fun e w'=>e=.returned (.string ⟨(Lib.repeatL s.data.toList c).toArray⟩)∧Below w.heap.size w w'
  else if k=.srtS then RowC P f XT.str srtS fun _=>none
  else if k=.srtI then RowC P f XT.i64 srtI fun _=>none
  else if k=.cpS then RowC P f XT.str (cpR []) fun l=>some (Lib.compact l).length
  else if k=.cpI then RowC P f XT.i64 (cpR 0) fun l=>some (Lib.compact l).length
  else ∃ fn,P.funcs[f]? = some fn ∧ (fn.name == "runtime.NumGoroutine") = false ∧ fn.body.isNone = true ∧ Extern.findNext fn = none ∧ Extern.find fn = some k.fn
section
variable {P:Program} {X:Cx} {E:Env} {G:Nat→List IV}
def XTab(G:Nat→List IV)(k:XK):Prop:=match k.ext with
  |some (.inl g)=>∃ m,G g=[.int .i64 m]
  |some (.inr (g3,g4))=>G g3=utf1.map (IV.int .u8)∧G g4=utf2.map (IV.int .u8)
  |none=>True
theorem gcell{X:Cx}{E:Env}(hW:WR X E)(hG:GOk X G){g i:Nat}{k:IntKind}{n:Int}(h:(G g)[i]?=some (.int k n)):E.w.cell? ⟨g,i,none⟩=some (.int k n):=by
 obtain ⟨h1,h2,cc,e,fr,h3,h4⟩:=hG g (by rintro q;simp[q] at h);have h5:E.w.heap[g]?=some (.cells cc e fr):=by rw[hW.still g h1 h2];exact h3
 obtain ⟨v,q1,q2⟩:=h4 i _ h;rw[cell_of_heap h5,q1]
 have:=q2 (fun _ _=>True) #[]
 cases this
 rfl
theorem gcells{X:Cx}{E:Env}(hW:WR X E)(hG:GOk X G){g:Nat}{k:IntKind}{zs:List Int}(h:G g=zs.map (IV.int k)):∀ i,i<zs.length→E.w.cell? ⟨g,i,none⟩=some (.int k (zs.getD i 0)):=by
 intro i hi;refine gcell hW hG (i:=i) ?_;rw[h];simp[hi,List.getD]
theorem xRun_ok{k:Nat→Option XK}(hk:∀ f x,k f=some x→XOk P f x)(ht:∀ f x,k f=some x→XTab G x):RunOk P G (xRun k):=by
 intro f args bs rs h e X ids E0 lent cargs X' E hW hG ha;have two:∀ {a b:IV},args=[.c (.r (.i a)),.c (.r (.i b))]→∃ u v,cargs=[u,v]∧VR (okc X' E) E.w.heap a u∧VR (okc X' E) E.w.heap b v:=fun {a b} q=>by
  subst q;cases ha with
  |cons h1 h2=>cases h2 with
   |cons h2 h3=>cases h3;exact ⟨_,_,rfl,h1,h2⟩
 have fin:∀ {n:Int},rs=[.c (I (.int .i64 n))]→h=[]→(callFunc f cargs.toArray).run P E.w=.ok (.value (.int .i64 n)) E.w→bs=[] →
   CallOk P f cargs.toArray E.w fun v w'=>∃ E',E'.w=w'∧E'.h=h∧WR X' E'∧Ext X' E E'∧∃ vs,All2 (A1R X' E') rs vs∧v=retV vs:=fun {n} q1 q2 q3 q4=>by
  subst q1;subst q2;subst q4;exact .inr ⟨_,E.w,q3,E,rfl,rfl,hW,Ext.refl _ _,[.int .i64 n],.cons (VR.int _ _) .nil,rfl⟩
 simp only[xRun] at e;split at e
 ·rename_i s n hkf
  simp at e;obtain ⟨u,v,rfl,h1,h2⟩:=two rfl;have hx:=hk f _ hkf;simp only[XOk,XK.ext,reduceCtorEq,if_false] at hx;obtain ⟨fn,q1,q2,q3,q4,q5⟩:=hx;cases h1 with
  |str _ z hz =>
   cases h2
   subst hz;refine fin e.1.symm e.2 ?_ rfl;rw[show ([Value.string z,Value.int .u8 n].toArray)=#[Value.string z,Value.int .u8 n] from rfl,run_callFunc_extern q1 q2 q3 q4 q5];simp only[XK.fn,Lib.run_indexByteString,Result.andThen]
 ·rename_i s t hkf
  simp at e;obtain ⟨u,v,rfl,h1,h2⟩:=two rfl;have hx:=hk f _ hkf;simp only[XOk,XK.ext,reduceCtorEq,if_false] at hx;obtain ⟨fn,q1,q2,q3,q4,q5⟩:=hx;cases h1 with
  |str _ y hy =>
   cases h2 with
   |str _ z hz =>
    subst hy;subst hz;refine fin e.1.symm e.2 ?_ rfl;rw[show ([Value.string y,Value.string z].toArray)=#[Value.string y,Value.string z] from rfl,run_callFunc_extern q1 q2 q3 q4 q5];simp only[XK.fn,Lib.run_compareString,Result.andThen]
 ·rename_i s t hkf
  split at e
  ·rename_i hok
   simp at e;obtain ⟨u,v,rfl,h1,h2⟩:=two rfl;have hx:=hk f _ hkf;simp only[XOk,XK.ext,if_true] at hx;obtain ⟨hen,hx⟩:=hx;obtain ⟨rfl,rfl⟩:=e;simp only[trimOk,Bool.and_eq_true,decide_eq_true_eq,List.all_eq_true] at hok;cases h1 with
   |str _ y hy =>
    cases h2 with
    |str _ z hz =>
     subst hy;subst hz;refine .inl ⟨hen _ _,(hx y z E.w (by rw[Lib.size_eq];exact hok.1.1) (by rw[Lib.size_eq];exact hok.1.2) fun j b hb=>hok.2 b (List.mem_of_getElem? hb)).mono ?_⟩;rintro e w' ⟨rfl,hb⟩;refine ⟨_,rfl,{E with w:=w'},rfl,rfl,⟨fun b x hx=>by simp[E,calleeE,Heap.get] at hx,fun b b' hx=>by simp[E,calleeE,Heap.get] at hx,Nat.le_trans hW.size hb.size,fun c hc ha=>?_,hb.os.trans hW.os,hb.tape.trans hW.tape,hb.output.trans hW.output,hW.f1,hW.a0,fun c o hc=>⟨(hb.block c (Array.getElem?_eq_some_iff.1 (hW.hid c o hc).1).1).trans (hW.hid c o hc).1,(hW.hid c o hc).2.1,(hW.hid c o hc).2.2⟩⟩,
      ⟨Nat.le_refl _,fun b g _ h=>by simp[E,calleeE,Heap.cur,Heap.get] at h,fun t c hc ho=>⟨ho,hb.block c hc⟩⟩,[.string ⟨(Lib.trimS y.data.toList z.data.toList).toArray⟩],.cons (VR.str _ _ (by simp)) .nil,rfl⟩
     exact (hb.block c (Nat.lt_of_lt_of_le hc hW.size)).trans (hW.still c hc ha)
  ·simp at e
 ·rename_i s hkf
  split at e
  ·rename_i hok
   split at e
   ·rename_i n hn
    simp at e;obtain ⟨u,rfl,h1⟩:∃ u,cargs=[u]∧VR (okc X' E) E.w.heap (.str s) u:=by
     cases ha with
     |cons h1 h2=>cases h2;exact ⟨_,rfl,h1⟩
    have hx:=hk f _ hkf;simp only[XOk,XK.ext,reduceCtorEq,if_false,if_true] at hx;obtain ⟨hen,hx⟩:=hx;obtain ⟨rfl,rfl⟩:=e;cases h1 with
    |str _ y hy =>
     subst hy;refine .inl ⟨hen _ _,(hx y n E.w (by rw[Lib.size_eq];exact hok) hn).mono ?_⟩;rintro e w' ⟨rfl,hb⟩;refine ⟨_,rfl,{E with w:=w'},rfl,rfl,⟨fun b x hx=>by simp[E,calleeE,Heap.get] at hx,fun b b' hx=>by simp[E,calleeE,Heap.get] at hx,Nat.le_trans hW.size hb.size,fun c hc ha=>?_,hb.os.trans hW.os,hb.tape.trans hW.tape,hb.output.trans hW.output,hW.f1,hW.a0,fun c o hc=>⟨(hb.block c (Array.getElem?_eq_some_iff.1 (hW.hid c o hc).1).1).trans (hW.hid c o hc).1,(hW.hid c o hc).2.1,(hW.hid c o hc).2.2⟩⟩,
      ⟨Nat.le_refl _,fun b g _ h=>by simp[E,calleeE,Heap.cur,Heap.get] at h,fun t c hc ho=>⟨ho,hb.block c hc⟩⟩,[.int .i64 n,.nilIface],.cons (VR.int _ _) (.cons VR.nilI .nil),rfl⟩
     exact (hb.block c (Nat.lt_of_lt_of_le hc hW.size)).trans (hW.still c hc ha)
   ·simp at e
  ·simp at e
 ·rename_i s n hkf
  split at e
  ·rename_i hok
   simp at e;obtain ⟨u,v,rfl,h1,h2⟩:=two rfl;have hx:=hk f _ hkf;simp only[XOk,XK.ext,reduceCtorEq,if_false,if_true] at hx;obtain ⟨hen,hx⟩:=hx;obtain ⟨rfl,rfl⟩:=e;obtain ⟨c,rfl⟩:=Int.eq_ofNat_of_zero_le hok.1;cases h1 with
   |str _ y hy =>
    cases h2
    subst hy;refine .inl ⟨hen _ _,(hx y c E.w (by omega) (by rw[Lib.size_eq];simpa using hok.2.2)).mono ?_⟩;rintro e w' ⟨rfl,hb⟩;refine ⟨_,rfl,{E with w:=w'},rfl,rfl,⟨fun b x hx=>by simp[E,calleeE,Heap.get] at hx,fun b b' hx=>by simp[E,calleeE,Heap.get] at hx,Nat.le_trans hW.size hb.size,fun c hc ha=>?_,hb.os.trans hW.os,hb.tape.trans hW.tape,hb.output.trans hW.output,hW.f1,hW.a0,fun c o hc=>⟨(hb.block c (Array.getElem?_eq_some_iff.1 (hW.hid c o hc).1).1).trans (hW.hid c o hc).1,(hW.hid c o hc).2.1,(hW.hid c o hc).2.2⟩⟩,
     ⟨Nat.le_refl _,fun b g _ h=>by simp[E,calleeE,Heap.cur,Heap.get] at h,fun t c hc ho=>⟨ho,hb.block c hc⟩⟩,[.string ⟨(Lib.repeatL y.data.toList c).toArray⟩],.cons (VR.str _ _ (by simp)) .nil,rfl⟩
    exact (hb.block _ (Nat.lt_of_lt_of_le hc hW.size)).trans (hW.still _ hc ha)
  ·simp at e
 ·rename_i hkf
  have hx:=hk f _ hkf;simp only[XOk,XK.ext,reduceCtorEq,if_false,if_true] at hx;exact row_ok hx e X ids E0 lent cargs hW hG ha
 ·rename_i hkf
  have hx:=hk f _ hkf;simp only[XOk,XK.ext,reduceCtorEq,if_false,if_true] at hx;exact row_ok hx e X ids E0 lent cargs hW hG ha
 ·rename_i hkf
  have hx:=hk f _ hkf;simp only[XOk,XK.ext,reduceCtorEq,if_false,if_true] at hx;exact row_ok hx e X ids E0 lent cargs hW hG ha
 ·rename_i hkf
  have hx:=hk f _ hkf;simp only[XOk,XK.ext,reduceCtorEq,if_false,if_true] at hx;exact row_ok hx e X ids E0 lent cargs hW hG ha
 ·rename_i g s t hkf
  split at e
  ·rename_i hok
   simp at e;obtain ⟨u,v,rfl,h1,h2⟩:=two rfl;obtain ⟨hen,hx⟩:contOk P f g:=hk f _ hkf;obtain ⟨m,hm⟩:∃ m,G g=[.int .i64 m]:=ht f _ hkf;have hc:=gcell hW hG (g:=g) (i:=0) (k:=.i64) (n:=m) (by rw[hm];rfl);obtain ⟨rfl,rfl⟩:=e;cases h1 with
   |str _ y hy =>
    cases h2 with
    |str _ z hz =>
     subst hy;subst hz;refine .inl ⟨hen _ _,(hx y z m E.w (by rw[Lib.size_eq];exact hok) hc).mono ?_⟩;rintro e w' ⟨rfl,rfl⟩;exact ⟨_,rfl,E,rfl,rfl,hW,Ext.refl _ _,[.bool _],.cons (VR.bool _) .nil,rfl⟩
  ·simp at e
 ·rename_i g3 g4 s hkf
  split at e
  ·rename_i hok
   simp at e;obtain ⟨u,rfl,h1⟩:∃ u,cargs=[u]∧VR (okc X' E) E.w.heap (.str s) u:=by
    cases ha with
    |cons h1 h2=>cases h2;exact ⟨_,rfl,h1⟩
   obtain ⟨hen,hx⟩:vstrOk P f g3 g4:=hk f _ hkf;obtain ⟨hm3,hm4⟩:G g3=utf1.map (IV.int .u8)∧G g4=utf2.map (IV.int .u8):=ht f _ hkf;have hc3:=gcells hW hG hm3;have hc4:=gcells hW hG hm4;obtain ⟨rfl,rfl⟩:=e;cases h1 with
   |str _ y hy =>
    subst hy;refine .inl ⟨hen _ _,(hx y E.w (by rw[Lib.size_eq];exact hok) (fun i hi=>hc3 i (by simpa[utf1] using hi)) (fun i hi=>hc4 i (by simpa[utf2] using hi))).mono ?_⟩;rintro e w' ⟨rfl,hb⟩;refine ⟨_,rfl,{E with w:=w'},rfl,rfl,⟨fun b x hx=>by simp[E,calleeE,Heap.get] at hx,fun b b' hx=>by simp[E,calleeE,Heap.get] at hx,Nat.le_trans hW.size hb.size,fun c hc ha=>?_,hb.os.trans hW.os,hb.tape.trans hW.tape,hb.output.trans hW.output,hW.f1,hW.a0,fun c o hc=>⟨(hb.block c (Array.getElem?_eq_some_iff.1 (hW.hid c o hc).1).1).trans (hW.hid c o hc).1,(hW.hid c o hc).2.1,(hW.hid c o hc).2.2⟩⟩,
     ⟨Nat.le_refl _,fun b g _ h=>by simp[E,calleeE,Heap.cur,Heap.get] at h,fun t c hc ho=>⟨ho,hb.block c hc⟩⟩,[.bool _],.cons (VR.bool _) .nil,rfl⟩
    exact (hb.block c (Nat.lt_of_lt_of_le hc hW.size)).trans (hW.still c hc ha)
  ·simp at e
 ·simp at e
def topX(W:World):Cx:={w0:=W,A0:=fun _ _=>False,F1:=fun c=>c<W.heap.size}
def topE(W:World):Env:={h:=[],m:=fun _=>(0,0),ct:=1,w:=W}
theorem top_wr(W:World):WR (topX W) (topE W) :=
 ⟨fun b x h=>by simp[topE,Heap.get] at h,fun b b' h=>by simp[topE,Heap.get] at h,Nat.le_refl _,fun _ _ _=>rfl,rfl,rfl,rfl,fun c h=>⟨h,by rintro ⟨b,h⟩;exact h⟩,fun b c h=>absurd h id,fun c o h=>by simp[topX] at h⟩
theorem law_calls{F:Nat→Option Fn}{Xr:Run}(hF:∀ f fn,F f=some fn→okFn P f fn=true)(hX:RunOk P G Xr){f:Nat}{fn:Fn}(hf:F f=some fn){W:World}(hG:GOk (topX W) G)
  {iv:IV} {v:Value} (hv:VR (fun t c=>t≠0∧c<W.heap.size) W.heap iv v) (hrun:∃ n d h,run G F Xr n d f [.c (I iv)] []=some ([.c (I (.bool true))],h)) :
  Calls P f #[v] W fun e W'=>e=.returned (.bool true)∧Below W.heap.size W W':=by
 obtain ⟨n,d,h,hrun⟩:=hrun;have hW:WR (calleeX (topX W) (topE W) [] true) (calleeE (topE W) [] []):=callee_wr (top_wr W) rfl rfl;have hk:∀ t c,c<W.heap.size→(t≠0∧c<W.heap.size)→okc (calleeX (topX W) (topE W) [] true) (calleeE (topE W) [] []) t c∧W.heap[c]?=W.heap[c]?:=fun t c hc ht =>
  ⟨.inr ⟨ht.1,hc,by simp,.inl rfl⟩,rfl⟩
 have hv':VR (okc (calleeX (topX W) (topE W) [] true) (calleeE (topE W) [] [])) W.heap iv v:=VR.mono hk hv;have hc:=run_sound hF hX n d f [.c (I iv)] [] _ h hrun (topX W) [] (topE W) true [v] hW (callee_gok (top_wr W) hG) (.cons hv' .nil);have hent:(callFunc f #[v]).run P W=.ok (.enter f #[v]) W:=by
  have hok:=hF f fn hf;unfold okFn at hok;split at hok
  ·rename_i g hg
   split at hok
   ·rename_i c hc
    simp at hok;obtain ⟨_,hname⟩:=hok;simp[callFunc,hg,hname,hc]
   ·simp at hok
  ·simp at hok
 rcases hc with ⟨_,hc⟩|⟨v',w',h1,_⟩
 ·refine hc.mono ?_
  rintro e w' ⟨x,rfl,E',rfl,h2,h3,h4,vs,h5,rfl⟩;refine ⟨?_,h3.os,h3.tape,h3.output,h3.size,fun k hk=>h3.still k hk (by rintro ⟨b,i,b',_,q,_⟩;simp at q)⟩;cases h5 with
  |cons r h6 =>
   cases h6
   cases r
   rfl
 ·have:(callFunc f #[v]).run P W=.ok (.value v') w':=h1
  rw[hent] at this;simp at this
theorem ints_vr{W:World}{k:IntKind}{a:Addr}{len cap:Nat}{zs:List Int}(hl:len≤cap)(hz:len≤zs.length)(hcell:∀ i,i<zs.length→W.cell? (a.add i)=some (.int k (zs.getD i 0))) :
  VR (fun t c=>t≠0∧c<W.heap.size) W.heap (.lit 1 ((zs.take len).map (.int k)) len) (.slice (some a) len cap):=by
 by_cases h0:len=0
 ·subst h0
  simp only[List.take_zero,List.map_nil];exact VR.lit0 _ _ _ _ hl
 ·have h0:0<len:=by omega
  obtain ⟨b,off,spot⟩:=a;have hc0:=hcell 0 (by omega);have hspot:spot=none:=by simpa[Addr.add] using World.cell?_spot hc0
  subst hspot;have hadd:∀ i,(⟨b,off,none⟩:Addr).add i=⟨b,off+i,none⟩:=fun i=>by unfold Addr.add;split<;>simp_all
  rw[hadd] at hc0;have hex:∃ cs e fr,W.heap[b]?=some (.cells cs e fr):=by
   unfold World.cell? at hc0;simp only at hc0;split at hc0
   ·rename_i cs e fr h;exact ⟨cs,e,fr,h⟩
   ·simp at hc0
  obtain ⟨cs,e,fr,hb⟩:=hex;have hcs:∀ i,i<zs.length→cs[off+i]?=some (.int k (zs.getD i 0)):=fun i hi=>by
   have:=hcell i hi
   rw[hadd,cell_of_heap hb] at this;exact this
  refine VR.lit 1 _ len b off cap cs e fr ((zs.take len).map (.int k)) ⟨by simp,(Array.getElem?_eq_some_iff.1 hb).1⟩ hb (by simp) (fun i v hv=>?_) (fun i x v hx hv=>?_) hl
  ·rw[List.getElem?_map] at hv
   cases hq:(zs.take len)[i]? with
   |none=>simp[hq] at hv
   |some z =>
    simp[hq] at hv;subst hv;have hi:i<zs.length:=by
     have:=(List.getElem?_eq_some_iff.1 hq).1
     simp at this;omega
    rw[hcs i hi];rw[List.getElem?_take] at hq;split at hq
    ·simp[List.getD,hq]
    ·simp at hq
  ·rw[List.getElem?_map] at hx hv
   cases hq:(zs.take len)[i]? with
   |none=>simp[hq] at hv
   |some z =>
    simp[hq] at hx hv;subst hx;subst hv;exact VR.int _ _
def tabG(g:Nat)(k:IntKind)(zs:List Int):Nat→List IV:=fun g'=>if g'=g then zs.map (.int k) else []
theorem tab_gok{W:World}{g:Nat}{k:IntKind}{zs:List Int}(hne:0<zs.length)(h:∀ i,i<zs.length→W.cell? ⟨g,i,none⟩=some (.int k (zs.getD i 0))):GOk (topX W) (tabG g k zs):=by
 intro g' hg';unfold tabG at hg';split at hg'
 ·rename_i e
  subst e;have hc0:=h 0 hne;have hex:∃ cs e fr,W.heap[g']?=some (.cells cs e fr):=by
   unfold World.cell? at hc0;simp only at hc0;split at hc0
   ·rename_i cs e fr h;exact ⟨cs,e,fr,h⟩
   ·simp at hc0
  obtain ⟨cs,e,fr,hb⟩:=hex;refine ⟨(Array.getElem?_eq_some_iff.1 hb).1,by rintro ⟨b,q⟩;exact q,cs,e,fr,hb,fun i x hx=>?_⟩;simp only[tabG,if_true,List.getElem?_map] at hx;cases hq:zs[i]? with
  |none=>simp[hq] at hx
  |some z =>
   simp[hq] at hx;subst hx;have hi:=(List.getElem?_eq_some_iff.1 hq).1
   have:=h i hi
   rw[cell_of_heap hb] at this;refine ⟨_,this,fun p hh=>?_⟩;have:zs.getD i 0=z:=by simp[List.getD,hq]
   rw[this];exact VR.int _ _
 ·exact absurd rfl hg'
end
end Go.Abs
namespace Go.Abs
section
variable {nt:Nat} {σ:Sl} {hp:Heap} {ct d:Nat} {R:Run} {Q:Sl→Heap→Nat→Prop} {l:List Ins}
end
structure SK(κ:Type) where
  kt:Nat
  a1:κ→A1
  dec:DecidableEq κ
  eq:∀ a b,eqKey (a1 a) (a1 b)=some (decide (a=b))
  plain:∀ a,plainKey kt (.v (a1 a))=some (a1 a)
  back:∀ h pl l a,back1 h pl l (a1 a)=some (a1 a)
def SK.str:SK (List UInt8):=⟨1,fun n=>.c (I (.str n)),inferInstance,fun a b=>by simp only[eqKey,eqCell];congr 1;rw[Bool.eq_iff_iff];simp,fun a=>rfl,fun _ _ l _=>by cases l<;>rfl⟩
def mget{κ β:Type}[DecidableEq κ](m:List (κ×β))(k:κ):Option β:=match m with
  |[]=>none
  |(a,b)::m=>if a=k then some b else mget m k
def mput{κ β:Type}[DecidableEq κ](m:List (κ×β))(k:κ)(v:β):List (κ×β):=match m with
  |[]=>[(k,v)]
  |(a,b)::m=>if a=k then (k,v)::m else (a,b)::mput m k v
section
variable {κ β:Type} [D:DecidableEq κ] {K:SK κ} {iv:β→IV}
def EntsOk(K:SK κ)(iv:β→IV)(es:List Ent)(m:List (κ×β)):Prop:=All2 (fun (e:Ent) (p:κ×β)=>e.key=K.a1 p.1∧e.val=.c (I (iv p.2))) es m
theorem EntsOk.find{es:List Ent}{m:List (κ×β)}(h:EntsOk K iv es m)(k:κ):findEnt (K.a1 k) es=some ((mget m k).map fun v=>.c (I (iv v))):=by
 induction h with
 |nil=>rfl
 |cons r _ ih =>
  rename_i e p l m' _;obtain ⟨a,b⟩:=p;obtain ⟨h1,h2⟩:=r;simp only[findEnt,h1,K.eq];by_cases hk:k=a
  ·subst hk;simp[mget,h2]
  ·have hk':¬ a=k:=fun q=>hk q.symm
   simp only[hk,decide_false,mget,hk',if_false];exact ih
theorem EntsOk.set{es:List Ent}{m:List (κ×β)}(h:EntsOk K iv es m)(k:κ)(v:β)(hs:(mget m k).isSome=true):EntsOk K iv (setEnt (K.a1 k) (.c (I (iv v))) es) (mput m k v):=by
 induction h with
 |nil=>simp[mget] at hs
 |cons r r2 ih =>
  rename_i e p l m';obtain ⟨a,b⟩:=p;obtain ⟨h1,h2⟩:=r;simp only[setEnt,h1,K.eq];by_cases hk:k=a
  ·subst hk;simp only[decide_true,mput,if_true];exact .cons ⟨rfl,rfl⟩ r2
  ·have hk':¬ a=k:=fun q=>hk q.symm
   simp only[hk,decide_false,mput,hk',if_false];exact .cons ⟨h1,h2⟩ (ih (by simpa[mget,hk'] using hs))
theorem mput_new{m:List (κ×β)}{k:κ}{v:β}(h:mget m k=none):mput m k v=m++[(k,v)]:=by
 induction m with
 |nil=>rfl
 |cons p m ih =>
  obtain ⟨a,b⟩:=p;simp only[mget] at h;split at h
  ·simp at h
  ·rename_i hk;simp only[mput,hk,if_false,ih h,List.cons_append]
def mp(P:List Nat)(K:SK κ)(iv:β→IV)(hp:Heap)(a:AC)(m:List (κ×β)):Prop:=∃ b g es clk,b∈P∧a=.r (.map b g)∧hp.get b=some (.map g es clk)∧EntsOk K iv es m
omit D in
theorem mp.fr{P P':List Nat}{hp hp':Heap}{a:AC}{m:List (κ×β)}(h:mp P K iv hp a m)(k:Fr P' hp hp')(hd:P.all (fun b=>!P'.contains b)=true):mp P K iv hp' a m:=by
 obtain ⟨b,g,es,clk,h1,h2,h3,h4⟩:=h
 have:=List.all_eq_true.1 hd b h1
 exact ⟨b,g,es,clk,h1,h2,(k b (by simpa using this)).trans h3,h4⟩
omit D in
theorem mp.wide{P P':List Nat}{hp:Heap}{a:AC}{m:List (κ×β)}(h:mp P K iv hp a m)(hd:P.all (fun b=>P'.contains b)=true):mp P' K iv hp a m:=by
 obtain ⟨b,g,es,clk,h1,h2,h3,h4⟩:=h
 have:=List.all_eq_true.1 hd b h1
 exact ⟨b,g,es,clk,by simpa using this,h2,h3,h4⟩
omit D in
end
section
variable {κ β:Type} [D:DecidableEq κ] {K:SK κ} {iv:β→IV} {nt:Nat} {σ:Sl} {hp:Heap} {ct d:Nat} {G:Nat→List IV} {R:Run} {Q:Sl→Heap→Nat→Prop} {l:List Ins} {P:List Nat} {a:AC} {m:List (κ×β)} {x ko vo:Opd}
theorem mapAt_of{b g clk:Nat}{es:List Ent}(h:hp.get b=some (.map g es clk)):hp.mapAt b g=some (es,clk):=by simp[Heap.mapAt,h]
omit D in
theorem k_mkmap(K:SK κ)(iv:β→IV)(nx:∀ a hp' ct',mp [d] K iv hp' a ([]:List (κ×β))→Fr [d] hp hp'→wpL G R nt l Q (upd σ d (.v (.c a))) hp' ct'):wpL G R nt (.op (some d) none .mkmap::l) Q σ hp ct:=by
 refine k_op (v:=.v (.c (.r (.map d ct)))) (hp':=hp.set d (.map ct [] 0)) (ct':=ct+1) ?_ (nx _ _ _ ⟨d,ct,[],0,by simp,rfl,by simp[Heap.get_set],.nil⟩ fun b hb=>?_)
 ·simp only[opK,step,mkS_hp,mkS_ct,Option.getD_some]
 ·simp at hb;rw[Heap.get_set,if_neg hb]
theorem k_lkp{zero:IV}{key:κ}{z:β}(hx:evσ nt σ x=.v (.c a))(hm:mp P K iv hp a m)(hk:evσ nt σ ko=.v (K.a1 key))(hz:zero=iv z)
  (nx:wpL G R nt l Q (upd σ d (V (iv ((mget m key).getD z)))) hp ct):wpL G R nt (.op (some d) none (.lkp K.kt [zero] false false x ko)::l) Q σ hp ct:=by
 obtain ⟨b,g,es,clk,h1,rfl,h3,h4⟩:=hm;refine k_op (v:=V (iv ((mget m key).getD z))) (hp':=hp) (ct':=ct) ?_ nx;simp only[opK,step,ev_mk,hx,hk,K.plain,mkS_hp,mkS_ct,mapAt_of h3,h4.find];subst hz;cases mget m key<;>simp[mk1,V]
theorem k_mupd{key:κ}{val:β}(hx:evσ nt σ x=.v (.c a))(hm:mp P K iv hp a m)(hk:evσ nt σ ko=.v (K.a1 key))(hv:evσ nt σ vo=V (iv val))
  (nx:∀ hp',mp P K iv hp' a (mput m key val)→Fr P hp hp'→wpL G R nt l Q σ hp' ct):wpL G R nt (.op none none (.mupd K.kt x ko vo)::l) Q σ hp ct:=by
 obtain ⟨b,g,es,clk,h1,rfl,h3,h4⟩:=hm;have hf:∀ y,Fr P hp (hp.set b y):=fun y c hc=>by rw[Heap.get_set,if_neg (fun e=>hc (by rw[e];exact h1))]
 cases hg:mget m key with
 |none =>
  refine k_op (dd:=none) (hp':=hp.set b (.map g (es++[⟨K.a1 key,.c (I (iv val)),clk⟩]) (clk+1))) (ct':=ct) (v:=.und) ?_ (nx _ ⟨b,g,_,_,h1,rfl,by rw[Heap.get_set,if_pos rfl],?_⟩ (hf _))
  ·have e3:ev (mkS nt σ hp ct) vo=V (iv val):=by rw[ev_mk,hv]
   simp only[opK,step,ev_mk,hx,hk,K.plain,mkS_hp,mkS_ct,mapAt_of h3,h4.find,hg,hv,V];rfl
  ·rw[mput_new hg];exact All2.append h4 (.cons ⟨rfl,rfl⟩ .nil)
 |some w =>
  refine k_op (dd:=none) (hp':=hp.set b (.map g (setEnt (K.a1 key) (.c (I (iv val))) es) clk)) (ct':=ct) (v:=.und) ?_ (nx _ ⟨b,g,_,_,h1,rfl,by rw[Heap.get_set,if_pos rfl],h4.set key val (by rw[hg];rfl)⟩ (hf _));simp only[opK,step,ev_mk,hx,hk,K.plain,mkS_hp,mkS_ct,mapAt_of h3,h4.find,hg,hv,V];rfl
omit D in
end
section
variable {nt:Nat} {σ:Sl} {hp:Heap} {ct d:Nat} {G:Nat→List IV} {R:Run} {Q:Sl→Heap→Nat→Prop} {l:List Ins}
inductive PartsI(nt:Nat)(σ:Sl):Nat→List (Nat×Opd)→List IV→Prop
  |nil {k:Nat}:PartsI nt σ k [] []
  |cons {k:Nat} {x:Opd} {v:IV} {l:List (Nat×Opd)} {vs:List IV} (h:evσ nt σ x=.v (.c (I v))) (r:PartsI nt σ (k+1) l vs):PartsI nt σ k ((k,x)::l) (v::vs)
theorem PartsI.parts{k:Nat}{parts:List (Nat×Opd)}{vs:List IV}(h:PartsI nt σ k parts vs):PartsP nt σ parts ((vs.zipIdx k).map fun (v,i)=>(i,.c (I v))):=by
 induction h with
 |nil=>exact .nil
 |cons h _ ih=>exact .cons h ih
theorem fill_one(vs:List IV):∀ (k:Nat) (pre:List AC) (rest:List AC),pre.length=k→rest.length=vs.length →
  fillS 1 (pre++rest) ((vs.zipIdx k).map fun (v,i)=>(i,.c (I v)))=some (pre++vs.map I):=by
 induction vs with
 |nil=>intro k pre rest _ h2;simp at h2;subst h2;simp[fillS]
 |cons v vs ih =>
  intro k pre rest h1 h2;cases rest with
  |nil=>simp at h2
  |cons r rest =>
   simp only[List.zipIdx_cons,List.map_cons,fillS];rw[if_pos (by simp[A1.cells];omega)];have e:lay (pre++r::rest) (k*1) (A1.c (I v)).cells=(pre++[I v])++rest:=by
    simp only[lay,Nat.mul_one,A1.cells,List.length_cons,List.length_nil,← h1];simp
   rw[e,ih (k+1) (pre++[I v]) rest (by simp[h1]) (by simpa using h2)];simp
theorem repC_len1(n:Nat)(z:IV):(repC n [z]).length=n:=by
 induction n with
 |zero=>rfl
 |succ n ih=>simp[repC,ih]
theorem k_bslI{len:Nat}{z:IV}{parts:List (Nat×Opd)}{vs:List IV}(hp1:PartsI nt σ 0 parts vs)(hb:len≤16777216)(hl:vs.length=len)(n:wpL G R nt l Q (upd σ d (V (.lit 0 vs len))) hp ct) :
  wpL G R nt (.op (some d) none (.bsl 1 len [z] parts false)::l) Q σ hp ct :=
 k_bslL hp1.parts ⟨by omega,rfl⟩ (by have:=fill_one vs 0 [] (repC len [z]) rfl (by rw[repC_len1,hl]);simpa using this) n
theorem dep_bslI{S:List Nat}{dd:Option Nat}{len:Nat}{z:IV}{parts:List (Nat×Opd)}{vs:List IV}(hp1:PartsI nt σ 0 parts vs)(hl:vs.length=len):Dep S G R (mkS nt σ hp ct) (.op dd none (.bsl 1 len [z] parts false)) :=
 dep_bsl hp1.parts (by have:=fill_one vs 0 [] (repC len [z]) rfl (by rw[repC_len1,hl]);simpa using this)
end
section
variable {nt:Nat} {σ:Sl} {hp:Heap} {ct d:Nat} {G:Nat→List IV} {R:Run} {Q:Sl→Heap→Nat→Prop} {l:List Ins}
end
def nn(a:AC):Prop:=∃ b g off sz n,a=.r (.sl b g off sz n)
theorem nn_sl{b g off sz n:Nat}:nn (.r (.sl b g off sz n)):=⟨b,g,off,sz,n,rfl⟩
theorem so.nnp{α:Type}{P:List Nat}{E:Rep α}{f:Bool}{hp:Heap}{a:AC}{xs:List α}(h:so P E f hp a xs)(hn:nn a) :
  ∃ b g off cs c,b∈P∧a=.r (.sl b g off E.sz xs.length)∧hp.row b g=some (List.map I cs)∧rows E f c xs∧off+xs.length*E.sz≤cs.length∧(cs.drop off).take (xs.length*E.sz)=c:=by
 rcases h with ⟨rfl,_⟩|⟨rfl,_⟩|h
 ·obtain ⟨_,_,_,_,_,e⟩:=hn;simp at e
 ·obtain ⟨_,_,_,_,_,e⟩:=hn;simp at e
 ·exact h
theorem rows_strong{α:Type}{E:Rep α}(h:∀ c x,E.rp false c x→E.rp true c x):∀ {l:List α} {c:List IV},rows E false c l→rows E true c l
 |[],_,r=>r
 |_::_,_,⟨a,b,e,r1,r2⟩=>⟨a,b,e,h a _ r1,rows_strong h r2⟩
theorem retags_take(t:Nat):∀ (n:Nat) (c:List IV),IV.retags t (c.take n)=(IV.retags t c).take n
 |0,c=>by simp[IV.retags]
 |n+1,[]=>by simp[IV.retags]
 |n+1,v::c=>by simp[IV.retags,retags_take t n c]
theorem retags_drop(t:Nat):∀ (n:Nat) (c:List IV),IV.retags t (c.drop n)=(IV.retags t c).drop n
 |0,c=>by simp
 |n+1,[]=>by simp[IV.retags]
 |n+1,v::c=>by simp[IV.retags,retags_drop t n c]
section
variable {nt:Nat} {σ:Sl} {hp:Heap} {ct d:Nat} {G:Nat→List IV} {R:Run} {Q:Sl→Heap→Nat→Prop} {l:List Ins}
theorem k_bslIN{α:Type}{E:Rep α}{f:Bool}{len:Nat}{z:IV}{parts:List (Nat×Opd)}{vs:List IV}{xs:List α}(hp1:PartsI nt σ 0 parts vs)(hb:len≤16777216)(hl:vs.length=len)
  (hr:rows E f vs xs) (hl2:xs.length=len) (hz:E.sz=1) (nx:∀ a' hp',so [d] E f hp' a' xs→nn a'→Fr [d] hp hp'→wpL G R nt l Q (upd σ d (.v (.c a'))) hp' (ct+1)):wpL G R nt (.op (some d) none (.bsl 1 len [z] parts true)::l) Q σ hp ct:=by
 have hrl:=rows_len hr;have hv:fillS 1 (repC len [z]) ((vs.zipIdx 0).map fun (v,i)=>(i,A1.c (I v)))=some (vs.map I):=by have:=fill_one vs 0 [] (repC len [z]) rfl (by rw[repC_len1,hl]);simpa using this
 refine k_op (v:=.v (.c (.r (.sl d ct 0 1 len)))) (hp':=hp.set d (.cells ct (vs.map I))) (ct':=ct+1) ?_ (nx _ _ (.inr (.inr ⟨d,ct,0,vs,vs,by simp,by rw[hz,hl2],by simp[Heap.row,Heap.get_set],hr,by omega,by rw[List.drop_zero,List.take_of_length_le (by omega)]⟩)) nn_sl (Fr.set _ _ _));rw[x_bsl,hp1.parts.ev];have hb2:len*1≤16777216∧[z].length=1:=⟨by omega,rfl⟩;simp only[hv,if_pos hb2,if_true];rfl
theorem k_appX{α:Type}{E:Rep α}{P P':List Nat}{f:Bool}{sz bytes:Nat}{x y:Opd}{a b:AC}{xs ys zs:List α}(hx:evσ nt σ x=.v (.c a))(hs:so P E f hp a xs)(hn:nn a)(hy:evσ nt σ y=.v (.c b))(ht:sa P' E f hp b ys)(e:app bytes xs ys=some zs)(hz:E.sz=sz)
  (nx:∀ a' hp' ct',so P E f hp' a' zs→nn a'→Fr P hp hp'→wpL G R nt l Q (upd σ d (.v (.c a'))) hp' ct'):wpL G R nt (.op (some d) none (.app sz bytes false x y)::l) Q σ hp ct:=by
 subst hz;unfold app at e;split at e
 ·rename_i hb
  have e:=Option.some.inj e;subst e;have hstr:isStrC b=false:=by
   rcases ht with ⟨v,rfl,⟨rfl,rfl⟩|⟨rfl,rfl⟩|⟨t,c,rfl,h4,h5⟩⟩|⟨rfl,rfl⟩|⟨rfl,rfl⟩|⟨b,g,off,cs,c,hb,rfl,h4⟩<;>rfl
  obtain ⟨c,hc,hcs⟩:=ht.cells;have hcl:=rows_len hc;obtain ⟨b',g,off,cs,c',hb',rfl,h4,h5,h6,h7⟩:=hs.nnp hn;have hcl':=rows_len h5;have hrow:(cs.map I).take (off+xs.length*E.sz)++c.map I=(cs.take (off+xs.length*E.sz)++c).map I:=by rw[List.map_append,List.map_take]
  refine k_op (v:=.v (.c (.r (.sl b' ct off E.sz (xs.length+ys.length))))) (hp':=hp.set b' (.cells ct ((cs.map I).take (off+xs.length*E.sz)++c.map I))) (ct':=ct+1) ?_ (nx _ _ _ (.inr (.inr ⟨b',ct,off,cs.take (off+xs.length*E.sz)++c,c'++c,hb',by simp,by rw[← hrow];simp[Heap.row,Heap.get_set],rows_append hc h5,?_,?_⟩)) nn_sl (fun q hq=>by rw[Heap.get_set,if_neg];rintro rfl;exact hq hb'))
  ·rw[x_app,hx,hy];simp only[hstr,if_true,hcs,h4,List.length_map]
   rw[if_pos (by simpa using ⟨h6,hb⟩)]
  ·simp[hcl,Nat.add_mul];omega
  ·have e1:(cs.take (off+xs.length*E.sz)).drop off=c':=by rw[← h7,List.drop_take];congr 1;omega
   have hoff:off≤(cs.take (off+xs.length*E.sz)).length:=by simp;omega
   rw[List.drop_append_of_le_length hoff,e1,List.take_of_length_le];simp[hcl,hcl',Nat.add_mul]
 ·simp at e
end
theorem refs_none{give:List (Nat×Nat)}{as:List A1}(hi:as.all A1.inl=true)(k:Nat):(as.zipIdx k).flatMap (fun (a,i)=>a.cells.zipIdx.flatMap fun (x,j)=>refC (give.contains (i,j)) x)=[]:=by
 rw[List.flatMap_eq_nil_iff];rintro ⟨a,i⟩ ha;have ha:a∈as:=by
  have:=List.mem_zipIdx ha
  exact this.2.2 ▸ List.getElem_mem _
 rw[List.flatMap_eq_nil_iff];rintro ⟨x,j⟩ hx;have hx:x∈a.cells:=by
  have:=List.mem_zipIdx hx
  exact this.2.2 ▸ List.getElem_mem _
 exact refs_inl (List.all_eq_true.1 hi a ha) x hx
theorem lent_none{ids:List Nat}{as:List A1}(hi:as.all A1.inl=true):(as.any fun a=>a.cells.any (lentC ids))=false:=by
 rw[List.any_eq_false];intro a ha;rw[lent_inl (List.all_eq_true.1 hi a ha)];simp
def heap0(bs:List Blk):Heap:=bs.zipIdx.map fun (b,i)=>(PB+i,b)
theorem fn_givenS{G:Nat→List IV}{F:Nat→Option Fn}{X:Run}{f:Nat}{fn:Fn}(hf:F f=some fn){args:List A1}{bs:List Blk}(hn:args.length≤fn.nt){P:List A1→Heap→Prop}
  (h:∀ hp0,hp0=heap0 bs→wpE G (lim G F X) fn.nt fn.body (ini args) hp0 1 (atEnd fn.nt fn.res P)):ownC (lim G F X) f args bs P:=fn_own hf hn (h _ rfl)
section
variable {nt:Nat} {σ:Sl} {hp:Heap} {ct d:Nat} {G:Nat→List IV} {R:Run} {Q:Sl→Heap→Nat→Prop} {l:List Ins}
theorem k_callS{α:Type}{E:Rep α}{PL:List Nat}{f1 f2:Bool}{f:Nat}{dd:Option Nat}{x:Opd}{args:List Opd}{a:AC}{as as':List A1}{O:AC→List A1→Heap→Prop}{xs zs:List α}{ts:List IV}
  (hst:∀ c,rows E false c xs→rows E f2 c xs) (hx:evσ nt σ x=.v (.c a)) (hs:so PL E f1 hp a xs) (ha:∀ ids,ArgsP nt σ hp ids args as as') (hi:as.all A1.inl=true)
  (hc:∀ a0 bs,so [PB] E f2 (heap0 bs) a0 xs→ownC R f (.c a0::as') bs (O a0))
  (hP:∀ a0 rs h,O a0 rs h→rs=ts.map (fun v=>.c (I v))∧so [PB] E f2 h a0 zs)
  (n:∀ hp',so PL E f2 hp' a zs→Fr PL hp hp'→wpL G R nt l Q (updO σ dd (resV (ts.map fun v=>.c (I v)))) hp' (ct+1)) :
  wpL G R nt (.op dd none (.call f (x::args) {give:=[(0,0)],ad:=[],pure:=false})::l) Q σ hp ct:=by
 have nil:∀ v:IV,v.retag 1=v→a=I v→so [PB] E f2 (heap0 []) (I v) xs→wpL G R nt (.op dd none (.call f (x::args) {give:=[(0,0)],ad:=[],pure:=false})::l) Q σ hp ct:=by
  rintro v hv rfl h0;obtain ⟨rs,h,hR,hO⟩:=hc (I v) [] h0;obtain ⟨rfl,hs2⟩:=hP _ _ _ hO;have hs3:so PL E f2 hp (I v) zs:=by
   rcases hs2 with ⟨e,r⟩|⟨e,r⟩|⟨_,_,_,_,_,_,e,_⟩
   ·exact .inl ⟨e,r⟩
   ·exact .inr (.inl ⟨e,r⟩)
   ·simp at e
  have hids:refsOf [(0,0)] (.c (I v)::as)=[]:=by
   unfold refsOf;rw[List.zipIdx_cons,List.flatMap_cons,refs_none hi];simp[A1.cells,List.zipIdx,refC,refR,ddup]
  have hlent:((A1.c (I v)::as).any fun a=>a.cells.any (lentC []))=false:=by
   rw[List.any_cons,lent_none hi];simp[A1.cells,lentC,lentR]
  have hto:traverse (to1 true hp []) (.c (I v)::as)=some (.c (I v)::as'):=by
   rw[traverse_cons,(ha []).ev.2];simp[to1,toC,toR,hv]
  have eev:traverse (fun o=>(evσ nt σ o).one) (x::args)=some (.c (I v)::as):=by
   rw[traverse_cons,hx,(ha []).ev.1];rfl
  refine k_op (v:=resV (ts.map fun v=>.c (I v))) (hp':=hp) (ct':=ct+1) ?_ (n _ hs3 (Fr.refl _ _));simp only[opK,evals_mk,eev,doCall,Bool.false_eq_true,if_false,mkS_hp,mkS_ct,hids,hto,show handOver hp []=some [] from rfl,hR,hlent];simp[placesOf,adOf,backH,nodupB,back_ivs]
 rcases hs with ⟨rfl,rfl⟩|⟨rfl,rfl⟩|⟨b,g,off,cs,c,hb,rfl,h4,h5,h6,h7⟩
 ·exact nil .nilS rfl rfl (.inl ⟨rfl,rfl⟩)
 ·exact nil .emp rfl rfl (.inr (.inl ⟨rfl,rfl⟩))
 have hget:=(Heap.row_eq h4).1;have hcur:=(Heap.row_eq h4).2;have h5':rows E f2 (IV.retags 1 c) xs:=hst _ (rows_retag h5);have hso:so [PB] E f2 (heap0 [.cells 0 (List.map I (IV.retags 1 cs))]) (.r (.sl PB 0 off E.sz xs.length)) xs:=by
  refine .inr (.inr ⟨PB,0,off,IV.retags 1 cs,IV.retags 1 c,by simp,rfl,by simp[heap0,Heap.row],h5',by rw[IV.retags_length];exact h6,?_⟩);rw[← retags_drop,← retags_take,h7]
 obtain ⟨rs,h,hR,hO⟩:=hc _ _ hso;obtain ⟨rfl,hs2⟩:=hP _ _ _ hO;obtain ⟨b2,g2,off2,cs2,c2,hb2,e2,k4,k5,k6,k7⟩:=hs2.nnp nn_sl;injection e2 with e2;injection e2 with e3 e4 e5 _ e6;subst e3;subst e4;subst e5;have kget:=(Heap.row_eq k4).1;have kcur:=(Heap.row_eq k4).2;have ht:∀ c:List IV,traverse (toC false hp [b]) (c.map I)=some ((IV.retags 1 c).map I):=by
  intro c;induction c with
  |nil=>rfl
  |cons v c ih=>simp only[List.map_cons,traverse_cons,toC,toR,Option.map_some,ih,IV.retags]
 have hids:refsOf [(0,0)] (.c (.r (.sl b g off E.sz xs.length))::as)=[b]:=by
  unfold refsOf;rw[List.zipIdx_cons,List.flatMap_cons,refs_none hi];simp[A1.cells,List.zipIdx,refC,refR,ddup]
 have hlent:((A1.c (.r (.sl b g off E.sz xs.length))::as).any fun a=>a.cells.any (lentC [b]))=false:=by
  rw[List.any_cons,lent_none hi];simp[A1.cells,lentC,lentR,idxOf]
 have hto:traverse (to1 true hp [b]) (.c (.r (.sl b g off E.sz xs.length))::as)=some (.c (.r (.sl PB 0 off E.sz xs.length))::as'):=by
  rw[traverse_cons,(ha [b]).ev.2];simp[to1,toC,toR,idxOf,hcur]
 have hho:handOver hp [b]=some [.cells 0 (List.map I (IV.retags 1 cs))]:=by
  simp[handOver,traverse,hget,toB,ht cs]
 have hrow:(hp.set b (.cells g (cs2.map I))).row b g=some (cs2.map I):=by simp[Heap.row,Heap.get_set]
 refine k_op (v:=resV (ts.map fun v=>.c (I v))) (hp':=hp.set b (.cells g (cs2.map I))) (ct':=ct+1) ?_
  (n _ (.inr (.inr ⟨b,g,off,cs2,c2,hb,by rw[e6],hrow,k5,k6,k7⟩)) fun q hq=>by rw[Heap.get_set,if_neg];rintro rfl;exact hq hb)
 have eb:traverse (back1 h [(PB,b,g)] false) (ts.map fun v=>A1.c (I v))=some (ts.map fun v=>.c (I v)):=back_ivs _ _ _;have eh:backH h [(PB,b,g)] false [(PB,b,g)] hp=some (hp.set b (.cells g (cs2.map I))):=by
  simp only[backH,kget,backB,back_row,Option.map_some]
 have ead:adOf [] (ts.map fun v=>A1.c (I v)) h=[]:=by simp[adOf]
 have epl:placesOf h hp ct [b] []=[(PB,b,g)]:=by
  simp[placesOf,kcur,hcur]
 have eev:traverse (fun o=>(evσ nt σ o).one) (x::args)=some (.c (.r (.sl b g off E.sz xs.length))::as):=by
  rw[traverse_cons,hx,(ha []).ev.1];rfl
 simp only[opK,evals_mk,eev,doCall,Bool.false_eq_true,if_false,mkS_hp,mkS_ct,hids,hto,hho,hR,hlent,ead,epl,eb,eh];simp[nodupB]
end
noncomputable def nilc{α β:Type}(x:List α)(A B:Option β):Option β:=open Classical in if x=[] then (if A=B then A else none) else B
theorem nilc_t{α β:Type}{x:List α}{A B:Option β}{r:β}(h:nilc x A B=some r)(e:x=[]):A=some r:=by
 unfold nilc at h;rw[if_pos e] at h;split at h
 ·exact h
 ·simp at h
theorem nilc_f{α β:Type}{x:List α}{A B:Option β}{r:β}(h:nilc x A B=some r):B=some r:=by
 unfold nilc at h;split at h
 ·split at h
  ·rename_i e;rw[← e];exact h
  ·simp at h
 ·exact h
theorem nilc_eq{α β:Type}{x:List α}{A B:Option β}(h:x=[]→A=B):nilc x A B=B:=by
 unfold nilc;split
 ·rename_i e;rw[if_pos (h e),h e]
 ·rfl
section
variable {nt:Nat} {σ:Sl} {hp:Heap} {ct d:Nat} {G:Nat→List IV} {R:Run} {Q:Sl→Heap→Nat→Prop} {l:List Ins}
theorem k_eqNil{α:Type}{E:Rep α}{P:List Nat}{f neg:Bool}{x:Opd}{a:AC}{xs:List α}(hx:evσ nt σ x=.v (.c a))(hs:sa P E f hp a xs)
  (nx:∀ b:Bool,(b=true→xs=[])→wpL G R nt l Q (upd σ d (V (.bool (if neg then !b else b)))) hp ct):wpL G R nt (.op (some d) none (.eqN neg 1 x (.c .nilS))::l) Q σ hp ct:=by
 have key:∃ b,isNil hp 1 a=some b∧(b=true→xs=[]):=by
  rcases hs with ⟨v,rfl,⟨rfl,h⟩|⟨rfl,h⟩|⟨t,c,rfl,_⟩⟩|⟨rfl,h⟩|⟨rfl,h⟩|⟨b,g,off,cs,c,hb,rfl,h4,_⟩
  ·exact ⟨true,rfl,fun _=>h⟩
  ·exact ⟨false,rfl,by simp⟩
  ·exact ⟨false,rfl,by simp⟩
  ·exact ⟨true,rfl,fun _=>h⟩
  ·exact ⟨false,rfl,by simp⟩
  ·exact ⟨false,by simp[isNil,(Heap.row_eq h4).2],by simp⟩
 obtain ⟨b,h1,h2⟩:=key;refine k_op (v:=V (.bool (if neg then !b else b))) (hp':=hp) (ct':=ct) ?_ (nx b h2);have e2:evσ nt σ (.c .nilS)=V .nilS:=rfl;simp only[opK,step,ev_mk,hx,e2,V,mkS_hp,mkS_ct,h1,show isNil hp 1 (I .nilS)=some true from rfl,Bool.or_true,if_true,okv,Option.map_some];cases b<;>cases neg<;>rfl
theorem k_appXC{α:Type}{E:Rep α}{P P':List Nat}{f f2:Bool}{sz bytes:Nat}{x y:Opd}{a b:AC}{xs ys zs:List α}(hx:evσ nt σ x=.v (.c a))(hs:so P E f hp a xs)(hn:nn a)(hy:evσ nt σ y=.v (.c b))(ht:sa P' E f2 hp b ys)(hcv:∀ c,rows E f2 c ys→rows E f c ys)(e:app bytes xs ys=some zs)(hz:E.sz=sz)
  (nx:∀ a' hp' ct',so P E f hp' a' zs→nn a'→Fr P hp hp'→wpL G R nt l Q (upd σ d (.v (.c a'))) hp' ct'):wpL G R nt (.op (some d) none (.app sz bytes false x y)::l) Q σ hp ct:=by
 subst hz;unfold app at e;split at e
 ·rename_i hb
  have e:=Option.some.inj e;subst e;have hstr:isStrC b=false:=by
   rcases ht with ⟨v,rfl,⟨rfl,rfl⟩|⟨rfl,rfl⟩|⟨t,c,rfl,h4,h5⟩⟩|⟨rfl,rfl⟩|⟨rfl,rfl⟩|⟨b,g,off,cs,c,hb,rfl,h4⟩<;>rfl
  obtain ⟨c,hc0,hcs⟩:=ht.cells;have hc:=hcv c hc0;have hcl:=rows_len hc;obtain ⟨b',g,off,cs,c',hb',rfl,h4,h5,h6,h7⟩:=hs.nnp hn;have hcl':=rows_len h5;have hrow:(cs.map I).take (off+xs.length*E.sz)++c.map I=(cs.take (off+xs.length*E.sz)++c).map I:=by rw[List.map_append,List.map_take]
  refine k_op (v:=.v (.c (.r (.sl b' ct off E.sz (xs.length+ys.length))))) (hp':=hp.set b' (.cells ct ((cs.map I).take (off+xs.length*E.sz)++c.map I))) (ct':=ct+1) ?_ (nx _ _ _ (.inr (.inr ⟨b',ct,off,cs.take (off+xs.length*E.sz)++c,c'++c,hb',by simp,by rw[← hrow];simp[Heap.row,Heap.get_set],rows_append hc h5,?_,?_⟩)) nn_sl (fun q hq=>by rw[Heap.get_set,if_neg];rintro rfl;exact hq hb'))
  ·rw[x_app,hx,hy];simp only[hstr,if_true,hcs,h4,List.length_map]
   rw[if_pos (by simpa using ⟨h6,hb⟩)]
  ·simp[hcl,Nat.add_mul];omega
  ·have e1:(cs.take (off+xs.length*E.sz)).drop off=c':=by rw[← h7,List.drop_take];congr 1;omega
   have hoff:off≤(cs.take (off+xs.length*E.sz)).length:=by simp;omega
   rw[List.drop_append_of_le_length hoff,e1,List.take_of_length_le];simp[hcl,hcl',Nat.add_mul]
 ·simp at e
theorem eo.upd{α:Type}{P:List Nat}{E:Rep α}{f:Bool}{hp':Heap}{a p:AC}{xs ys:List α}{n:Nat}(h:eo P E f hp a xs p n)(k:so P E f hp' a ys):eo P E f hp' a ys p n:=by
 obtain ⟨b,g,off,cs,c,hb,rfl,rfl,_⟩:=h;obtain ⟨b2,g2,off2,cs2,c2,hb2,e2,k4,k5,k6,k7⟩:=k.nnp nn_sl;injection e2 with e2;injection e2 with e3 e4 e5 _ e6;subst e3;subst e4;subst e5;exact ⟨b,g,off,cs2,c2,hb,by rw[e6],rfl,k4,k5,k6,k7⟩
theorem idx_set{α:Type}{xs:List α}{n:Int}{y u:α}(e:idx xs n=some y):idx (xs.set n.toNat u) n=some u:=by
 obtain ⟨h1,h2,_⟩:=idx_is e;unfold idx;rw[if_pos h1,List.getElem?_set_self h2]
end
section
variable {κ β:Type} [D:DecidableEq κ] {K:SK κ} {iv:β→IV} {nt:Nat} {σ:Sl} {hp:Heap} {ct d:Nat} {G:Nat→List IV} {R:Run} {Q:Sl→Heap→Nat→Prop} {l:List Ins} {m:List (κ×β)}
omit D in
theorem back_ents(h:Heap)(pl:List (Nat×Nat×Nat)):∀ {es:List Ent} {m:List (κ×β)},EntsOk K iv es m→traverse (backEnt h pl false) es=some es
 |[],_,_=>rfl
 |e::es,_,h1=>by
  cases h1 with
  |cons r h2 =>
   obtain ⟨q1,q2⟩:=r
   rw[traverse_cons,back_ents h pl h2]
   obtain ⟨k,v,b⟩:=e
   simp only[] at q1 q2
   subst q1;subst q2
   simp only[backEnt,K.back]
   simp[back1,backC,backR]
omit D in
theorem k_callM{PL:List Nat}{f:Nat}{args:List Opd}{as as':List A1}{P:List A1→Heap→Prop}{ts:List IV}
  (hd:hp.get d=none) (ha:ArgsP nt σ hp [] args as as') (hl:(as.any fun a=>a.cells.any (lentC []))=false) (hr:refsOf [] as=[]) (hc:ownC R f as' [] P)
  (hP:∀ rs h,P rs h→∃ a,rs=.c a::ts.map (fun v=>.c (I v))∧mp PL K iv h a m) (hPL:PL.all (fun b=>decide (b<PB))=true)
  (n:∀ a' hp',mp [d] K iv hp' a' m→Fr [d] hp hp'→wpL G R nt l Q (upd σ d (resV (.c a'::ts.map fun v=>.c (I v)))) hp' (ct+1)) :
  wpL G R nt (.op (some d) none (.call f args {give:=[],ad:=[(PB,d)],pure:=false})::l) Q σ hp ct:=by
 obtain ⟨rs,h,h1,h2⟩:=hc;obtain ⟨a,rfl,b,g,es,clk,hb,rfl,h4,h5⟩:=hP _ _ h2;have e1:=ha.ev.1;have e2:=ha.ev.2;have hlt:b<PB:=by simpa using List.all_eq_true.1 hPL b hb
 have hcur:h.cur b=some g:=by simp[Heap.cur,h4,Blk.gen]
 refine k_op (v:=resV (.c (.r (.map d ct))::ts.map fun v=>.c (I v))) (hp':=hp.set d (.map ct es clk)) (ct':=ct+1) ?_
  (n _ _ ⟨d,ct,es,clk,List.mem_singleton.2 rfl,rfl,by simp[Heap.get_set],h5⟩ (Fr.set d _ hp))
 have ea:adOf [(PB,d)] (.c (.r (.map b g))::ts.map fun v=>.c (I v)) h=[(b,d)]:=by simp[adOf,hlt]
 have eb:traverse (back1 h [(b,d,ct)] false) (.c (.r (.map b g))::ts.map fun v=>.c (I v))=some (.c (.r (.map d ct))::ts.map fun v=>.c (I v)):=by
  rw[traverse_cons,back_ivs];simp[back1,backC,backR,backAt,hcur]
 have eh:backH h [(b,d,ct)] false [(b,d,ct)] hp=some (hp.set d (.map ct es clk)):=by
  simp only[backH,h4,backB,back_ents _ _ h5,Option.map_some]
 simp only[opK,evals_mk,e1,doCall,Bool.false_eq_true,if_false,mkS_hp,mkS_ct,hr,e2,show handOver hp []=some [] from rfl,h1,ea,hl];simp[placesOf,nodupB,hd,hlt,eb,eh]
end
section
variable {κ β:Type} [D:DecidableEq κ] {K:SK κ} {iv:β→IV} {nt:Nat} {σ:Sl} {hp:Heap} {ct d:Nat} {G:Nat→List IV} {R:Run} {Q:Sl→Heap→Nat→Prop} {l:List Ins} {P:List Nat} {a:AC} {m:List (κ×β)} {x ko:Opd}
end
section
variable {nt:Nat} {σ:Sl} {hp:Heap} {ct d:Nat} {G:Nat→List IV} {R:Run} {Q:Sl→Heap→Nat→Prop} {l:List Ins}
theorem so.nn_of{α:Type}{P:List Nat}{E:Rep α}{f:Bool}{hp:Heap}{a:AC}{xs:List α}(h:so P E f hp a xs)(hn:xs≠[]):nn a:=by
 rcases h with ⟨rfl,e⟩|⟨rfl,e⟩|⟨b,g,off,cs,c,hb,rfl,_⟩
 ·exact (hn e).elim
 ·exact (hn e).elim
 ·exact nn_sl
theorem retags_trav(hp:Heap)(ids:List Nat)(c:List IV):traverse (toC false hp ids) (c.map I)=some ((IV.retags 1 c).map I):=by
 induction c with
 |nil=>rfl
 |cons v c ih=>simp only[List.map_cons,traverse_cons,toC,toR,Option.map_some,ih,IV.retags]
theorem k_mkslN{α:Type}{E:Rep α}{f:Bool}{sz bytes:Nat}{zero:List IV}{x y:Opd}{k k':IntKind}{n:Int}{z:α}{zs:List α}(hx:evσ nt σ x=V (.int k n))(hy:evσ nt σ y=V (.int k' n))(e:mkN bytes n z=some zs)(hzr:E.rp f zero z)(hz:E.sz=sz)
  (nx:∀ a' hp',so [d] E f hp' a' zs→nn a'→Fr [d] hp hp'→wpL G R nt l Q (upd σ d (.v (.c a'))) hp' (ct+1)):wpL G R nt (.op (some d) none (.mksl sz bytes zero x y)::l) Q σ hp ct:=by
 subst hz;unfold mkN at e;split at e
 ·rename_i hb
  have e:=Option.some.inj e;subst e;have hzl:=E.len hzr;have hr:rows E f (List.replicate n.toNat zero).flatten (List.replicate n.toNat z):=rows_replicate hzr _;have hrl:=rows_len hr;simp only[List.length_replicate] at hrl;refine k_op (v:=.v (.c (.r (.sl d ct 0 E.sz n.toNat)))) (hp':=hp.set d (.cells ct (repC n.toNat zero))) (ct':=ct+1) ?_ (nx _ _ (.inr (.inr ⟨d,ct,0,(List.replicate n.toNat zero).flatten,_,by simp,by simp,by rw[← repC_flat];simp[Heap.row,Heap.get_set],hr,?_,?_⟩)) nn_sl (Fr.set _ _ _))
  ·rw[x_mksl,hx,hy]
   simp only[AV.nat,AV.int,hb.1,if_true,hb.2.1,hzl,true_and,and_true];rw[if_pos (by omega)];rfl
  ·rw[hrl];simp
  ·rw[List.drop_zero,List.length_replicate,← hrl,List.take_of_length_le (Nat.le_refl _)]
 ·simp at e
theorem k_callD{α:Type}{E:Rep α}{PL:List Nat}{f b0 b1 b2 g0 g1 g2:Nat}{x:Opd}{args:List Opd}{a:AC}{as as':List A1}{c1:List IV}{O:AC→List A1→Heap→Prop}{xs zs:List α}{ts:List IV}
  (hst:∀ c x,E.rp false c x→E.rp true c x) (hx:evσ nt σ x=.v (.c (.clo f [.ptr b0 g0 0,.ptr b1 g1 0,.ptr b2 g2 0])))
  (k0:hp.get b0=some (.cells g0 [a])) (hs:so PL E true hp a xs) (hn:nn a) (k1:hp.get b1=some (.cells g1 (c1.map I))) (k2:hp.get b2=some (.cells g2 [.clo f [.ptr b0 g0 0,.ptr b1 g1 0,.ptr b2 g2 0]]))
  (n01:(b0==b1)=false) (n02:(b0==b2)=false) (n12:(b1==b2)=false) (hPL:PL.all (fun b=>!(b==b0)&&!(b==b1)&&!(b==b2))=true)
  (ha:∀ ids,ArgsP nt σ hp ids args as as') (hi:as.all A1.inl=true)
  (hc:∀ a0 es,so [PB+3] E true (heap0 [.cells 0 [a0],.cells 0 (List.map I (IV.retags 1 c1)),.cells 0 [.clo f [.ptr PB 0 0,.ptr (PB+1) 0 0,.ptr (PB+2) 0 0]],.cells 0 (List.map I es)]) a0 xs→nn a0 →
   ownC R f (as'++[.c (.r (.ptr PB 0 0)),.c (.r (.ptr (PB+1) 0 0)),.c (.r (.ptr (PB+2) 0 0))]) [.cells 0 [a0],.cells 0 (List.map I (IV.retags 1 c1)),.cells 0 [.clo f [.ptr PB 0 0,.ptr (PB+1) 0 0,.ptr (PB+2) 0 0]],.cells 0 (List.map I es)] (O a0))
  (hP:∀ a0 rs h,O a0 rs h→rs=ts.map (fun v=>.c (I v))∧h.get PB=some (.cells 0 [a0])∧h.get (PB+1)=some (.cells 0 (List.map I (IV.retags 1 c1)))∧h.get (PB+2)=some (.cells 0 [.clo f [.ptr PB 0 0,.ptr (PB+1) 0 0,.ptr (PB+2) 0 0]])∧so [PB+3] E true h a0 zs)
  (n:∀ hp',so PL E true hp' a zs→(hp'.get b0=some (.cells g0 [a])∧hp'.get b1=some (.cells g1 ((IV.retags 1 c1).map I))∧hp'.get b2=some (.cells g2 [.clo f [.ptr b0 g0 0,.ptr b1 g1 0,.ptr b2 g2 0]]))→Fr (b1::PL) hp hp'→wpL G R nt l Q (upd σ d (resV (ts.map fun v=>.c (I v)))) hp' (ct+1)) :
  wpL G R nt (.op (some d) none (.callv x args {give:=[],ad:=[],pure:=false,deep:=true})::l) Q σ hp ct:=by
 obtain ⟨b,g,off,es,c,hb,rfl,h4,h5,h6,h7⟩:=hs.nnp hn;have hget:=(Heap.row_eq h4).1;have hcur:=(Heap.row_eq h4).2;have hne:=List.all_eq_true.1 hPL b hb;simp only[Bool.and_eq_true,Bool.not_eq_true',beq_eq_false_iff_ne] at hne n01 n02 n12;obtain ⟨⟨e0,e1⟩,e2⟩:=hne;have h5':rows E true (IV.retags 1 c) xs:=rows_strong hst (rows_retag h5);have hso:so [PB+3] E true (heap0 [.cells 0 [.r (.sl (PB+3) 0 off E.sz xs.length)],.cells 0 (List.map I (IV.retags 1 c1)),.cells 0 [.clo f [.ptr PB 0 0,.ptr (PB+1) 0 0,.ptr (PB+2) 0 0]],.cells 0 (List.map I (IV.retags 1 es))]) (.r (.sl (PB+3) 0 off E.sz xs.length)) xs:=by
  refine .inr (.inr ⟨PB+3,0,off,IV.retags 1 es,IV.retags 1 c,by simp,rfl,by simp[heap0,Heap.row,Heap.get],h5',by rw[IV.retags_length];exact h6,?_⟩);rw[← retags_drop,← retags_take,h7]
 obtain ⟨rs,h,hR,hO⟩:=hc _ _ hso nn_sl;obtain ⟨rfl,j0,j1,j2,hs2⟩:=hP _ _ _ hO;obtain ⟨b',g',off2,cs2,c2,hb2,e3,k4,k5,k6,k7⟩:=hs2.nnp nn_sl;injection e3 with e3;injection e3 with q1 q2 q3 _ q5;subst q1;subst q2;subst q3;have kget:=(Heap.row_eq k4).1;have u0:hp.cur b0=some g0:=Heap.cur_of_get k0;have u1:hp.cur b1=some g1:=Heap.cur_of_get k1;have u2:hp.cur b2=some g2:=Heap.cur_of_get k2;have v0:h.cur PB=some 0:=Heap.cur_of_get j0;have v1:h.cur (PB+1)=some 0:=Heap.cur_of_get j1;have v2:h.cur (PB+2)=some 0:=Heap.cur_of_get j2;have v3:h.cur (PB+3)=some 0:=Heap.cur_of_get kget;have hnil:∀ c:List IV,(c.map I).flatMap (refC true)=[]:=by
  intro c;rw[List.flatMap_eq_nil_iff];intro x hx;obtain ⟨v,_,rfl⟩:=List.mem_map.1 hx;rfl
 have hids:firsts (refDeep hp 2 (refsOf [] (as++[A1.c (.r (.ptr b0 g0 0)),.c (.r (.ptr b1 g1 0)),.c (.r (.ptr b2 g2 0))])))=[b0,b1,b2,b]:=by
  have:refsOf [] (as++[A1.c (.r (.ptr b0 g0 0)),.c (.r (.ptr b1 g1 0)),.c (.r (.ptr b2 g2 0))])=[b0,b1,b2]:=by
   unfold refsOf;rw[List.zipIdx_append,List.flatMap_append,refs_none hi];simp[A1.cells,List.zipIdx,refC,refR,ddup,n01,n02,n12]
  rw[this];simp[refDeep,k0,k1,k2,hget,hnil,refC,refR,firsts,Ne.symm n01,Ne.symm n02,Ne.symm n12,n01,n02,n12,e0,e1,e2]
 have hlent:((as++[A1.c (.r (.ptr b0 g0 0)),.c (.r (.ptr b1 g1 0)),.c (.r (.ptr b2 g2 0))]).any fun a=>a.cells.any (lentC [b0,b1,b2,b]))=false:=by
  rw[List.any_append,lent_none hi];simp[A1.cells,lentC,lentR,idxOf,n01,n02,n12]
 have i0:idxOf [b0,b1,b2,b] b0=some 0:=by simp[idxOf]
 have i1:idxOf [b0,b1,b2,b] b1=some 1:=by simp[idxOf,n01]
 have i2:idxOf [b0,b1,b2,b] b2=some 2:=by simp[idxOf,n02,n12]
 have i3:idxOf [b0,b1,b2,b] b=some 3:=by simp[idxOf,Ne.symm e0,Ne.symm e1,Ne.symm e2]
 have hto:traverse (to1 true hp [b0,b1,b2,b]) (as++[A1.c (.r (.ptr b0 g0 0)),.c (.r (.ptr b1 g1 0)),.c (.r (.ptr b2 g2 0))])=some (as'++[.c (.r (.ptr PB 0 0)),.c (.r (.ptr (PB+1) 0 0)),.c (.r (.ptr (PB+2) 0 0))]):=by
  have htr:∀ {p q:List A1},traverse (to1 true hp [b0,b1,b2,b]) p=some q→∀ r s,traverse (to1 true hp [b0,b1,b2,b]) r=some s→traverse (to1 true hp [b0,b1,b2,b]) (p++r)=some (q++s):=by
   intro p;induction p with
   |nil=>intro q h r s h2;simp[traverse] at h;subst h;exact h2
   |cons y p ih =>
    intro q h r s h2;rw[traverse_cons] at h;split at h
    ·simp at h
    ·rename_i y' hy
     split at h
     ·simp at h
     ·rename_i ys hys
      have h:=Option.some.inj h;subst h;rw[List.cons_append,traverse_cons,hy,ih hys r s h2];rfl
  refine htr (ha _).ev.2 _ _ ?_;simp[traverse,to1,toC,toR,i0,i1,i2,u0,u1,u2]
 have hho:handOver hp [b0,b1,b2,b]=some [.cells 0 [.r (.sl (PB+3) 0 off E.sz xs.length)],.cells 0 (List.map I (IV.retags 1 c1)),.cells 0 [.clo f [.ptr PB 0 0,.ptr (PB+1) 0 0,.ptr (PB+2) 0 0]],.cells 0 (List.map I (IV.retags 1 es))]:=by
  simp[handOver,traverse,k0,k1,k2,hget,toB,retags_trav,toC,toR,i0,i1,i2,i3,u0,u1,u2,hcur,mkClo,inlR]
 have epl:placesOf h hp ct [b0,b1,b2,b] []=[(PB,b0,g0),(PB+1,b1,g1),(PB+2,b2,g2),(PB+3,b,g)]:=by
  simp[placesOf,List.zipIdx,v0,v1,v2,v3,u0,u1,u2,hcur]
 have w0:backAt [(PB,b0,g0),(PB+1,b1,g1),(PB+2,b2,g2),(PB+3,b,g)] PB=some (b0,g0):=by simp[backAt]
 have w1:backAt [(PB,b0,g0),(PB+1,b1,g1),(PB+2,b2,g2),(PB+3,b,g)] (PB+1)=some (b1,g1):=by simp[backAt]
 have w2:backAt [(PB,b0,g0),(PB+1,b1,g1),(PB+2,b2,g2),(PB+3,b,g)] (PB+2)=some (b2,g2):=by simp[backAt]
 have w3:backAt [(PB,b0,g0),(PB+1,b1,g1),(PB+2,b2,g2),(PB+3,b,g)] (PB+3)=some (b,g):=by simp[backAt]
 have eh:backH h [(PB,b0,g0),(PB+1,b1,g1),(PB+2,b2,g2),(PB+3,b,g)] false [(PB,b0,g0),(PB+1,b1,g1),(PB+2,b2,g2),(PB+3,b,g)] hp =
   some ((((hp.set b0 (.cells g0 [.r (.sl b g off E.sz xs.length)])).set b1 (.cells g1 ((IV.retags 1 c1).map I))).set b2 (.cells g2 [.clo f [.ptr b0 g0 0,.ptr b1 g1 0,.ptr b2 g2 0]])).set b (.cells g (cs2.map I))):=by
  simp[backH,j0,j1,j2,kget,backB,back_row,backC,backR,w0,w1,w2,w3,v0,v1,v2,v3,traverse,mkClo,inlR]
 have eb:traverse (back1 h [(PB,b0,g0),(PB+1,b1,g1),(PB+2,b2,g2),(PB+3,b,g)] false) (ts.map fun v=>A1.c (I v))=some (ts.map fun v=>.c (I v)):=back_ivs _ _ _;have ead:adOf [] (ts.map fun v=>A1.c (I v)) h=[]:=by simp[adOf]
 refine k_op (v:=resV (ts.map fun v=>.c (I v))) (hp':=(((hp.set b0 (.cells g0 [.r (.sl b g off E.sz xs.length)])).set b1 (.cells g1 ((IV.retags 1 c1).map I))).set b2 (.cells g2 [.clo f [.ptr b0 g0 0,.ptr b1 g1 0,.ptr b2 g2 0]])).set b (.cells g (cs2.map I))) (ct':=ct+1) ?_ (n _ ?_ ⟨?_,?_,?_⟩ ?_)
 ·have eev:evals (mkS nt σ hp ct) args=some as:=by rw[evals_mk];exact (ha []).ev.1
  simp only[opK,eev,ev_mk,hx,doCall,Bool.false_eq_true,if_false,mkS_hp,mkS_ct];simp only[List.map_cons,List.map_nil,if_true,hids,hto,hho,hR,hlent,ead,epl,eb,eh];simp[nodupB,n01,n02,n12,Ne.symm e0,Ne.symm e1,Ne.symm e2]
 ·exact .inr (.inr ⟨b,g,off,cs2,c2,hb,by rw[q5],by simp[Heap.row,Heap.get_set],k5,k6,k7⟩)
 ·simp[Heap.get_set,n01,n02,Ne.symm e0]
 ·simp[Heap.get_set,n12,Ne.symm e1]
 ·simp[Heap.get_set,Ne.symm e2]
 ·intro q hq
  simp only[List.mem_cons,not_or] at hq;simp only[Heap.get_set];have:q≠b:=fun e=>hq.2 (e ▸ hb);rw[if_neg this];by_cases e:q=b2
  ·subst e;simp[k2]
  ·rw[if_neg e,if_neg hq.1]
   by_cases e':q=b0
   ·subst e';simp[k0]
   ·rw[if_neg e']
theorem k_callDs{α:Type}{E:Rep α}{PL:List Nat}{f b0 b1 b2 g0 g1 g2:Nat}{x:Opd}{args:List Opd}{a:AC}{as as':List A1}{c1:List IV}{O:AC→List A1→Heap→Prop}{xs zs:List α}{ts:List IV}
  (hst:∀ c x,E.rp false c x→E.rp true c x) (hx:evσ nt σ x=.v (.c (.clo f [.ptr b0 g0 0,.ptr b1 g1 0,.ptr b2 g2 0])))
  (k0:hp.get b0=some (.cells g0 [a])) (hs:so PL E true hp a xs) (hn:nn a) (k1:hp.get b1=some (.cells g1 (c1.map I))) (k2:hp.get b2=some (.cells g2 [.clo f [.ptr b0 g0 0,.ptr b1 g1 0,.ptr b2 g2 0]]))
  (n01:(b0==b1)=false) (n02:(b0==b2)=false) (n12:(b1==b2)=false) (hPL:PL.all (fun b=>!(b==b0)&&!(b==b1)&&!(b==b2))=true)
  (ha:∀ ids,ArgsP nt σ hp ids args as as') (hi:as.all A1.inl=true) (hr:IV.retags 1 c1=c1)
  (hc:∀ a0 es,so [PB+3] E true (heap0 [.cells 0 [a0],.cells 0 (List.map I (IV.retags 1 c1)),.cells 0 [.clo f [.ptr PB 0 0,.ptr (PB+1) 0 0,.ptr (PB+2) 0 0]],.cells 0 (List.map I es)]) a0 xs→nn a0 →
   ownC R f (as'++[.c (.r (.ptr PB 0 0)),.c (.r (.ptr (PB+1) 0 0)),.c (.r (.ptr (PB+2) 0 0))]) [.cells 0 [a0],.cells 0 (List.map I (IV.retags 1 c1)),.cells 0 [.clo f [.ptr PB 0 0,.ptr (PB+1) 0 0,.ptr (PB+2) 0 0]],.cells 0 (List.map I es)] (O a0))
  (hP:∀ a0 rs h,O a0 rs h→rs=ts.map (fun v=>.c (I v))∧h.get PB=some (.cells 0 [a0])∧h.get (PB+1)=some (.cells 0 (List.map I (IV.retags 1 c1)))∧h.get (PB+2)=some (.cells 0 [.clo f [.ptr PB 0 0,.ptr (PB+1) 0 0,.ptr (PB+2) 0 0]])∧so [PB+3] E true h a0 zs)
  (n:∀ hp',so PL E true hp' a zs→Fr PL hp hp'→wpL G R nt l Q (upd σ d (resV (ts.map fun v=>.c (I v)))) hp' (ct+1)) :
  wpL G R nt (.op (some d) none (.callv x args {give:=[],ad:=[],pure:=false,deep:=true})::l) Q σ hp ct:=by
 refine k_callD hst hx k0 hs hn k1 k2 n01 n02 n12 hPL ha hi hc hP fun hp' h1 h2 h3=>n hp' h1 fun q hq=>?_;by_cases e:q=b1
 ·subst e;rw[h2.2.1,k1,hr]
 ·exact h3 q (by simp[e,hq])
end
end Go.Abs
namespace Go.Abs
open Go
set_option maxRecDepth 100000
set_option maxHeartbeats 1000000
section
variable {nt:Nat} {σ:Sl} {hp:Heap} {ct d:Nat} {G:Nat→List IV} {R:Run} {Q:Sl→Heap→Nat→Prop} {l:List Ins}
end
section
variable {nt:Nat} {σ:Sl} {hp:Heap} {ct d:Nat} {G:Nat→List IV} {R:Run} {Q:Sl→Heap→Nat→Prop} {l:List Ins}
end
end Go.Abs
namespace Go.Abs
open Go
set_option maxRecDepth 100000
section
variable {nt:Nat} {σ:Sl} {hp:Heap} {ct d:Nat} {G:Nat→List IV} {R:Run} {Q:Sl→Heap→Nat→Prop} {l:List Ins}
theorem k_bslN{sz len:Nat}{zero:List IV}{parts:List (Nat×Opd)}{ps:List (Nat×A1)}{cs:List AC}(hp1:PartsP nt σ parts ps)(hb:len*sz≤16777216∧zero.length=sz)(hv:fillS sz (repC len zero) ps=some cs)
  (nx:∀ hp',hp'.get d=some (.cells ct cs)→Fr [d] hp hp'→wpL G R nt l Q (upd σ d (.v (.c (.r (.sl d ct 0 sz len))))) hp' (ct+1)):wpL G R nt (.op (some d) none (.bsl sz len zero parts true)::l) Q σ hp ct:=by
 refine k_op (v:=.v (.c (.r (.sl d ct 0 sz len)))) (hp':=hp.set d (.cells ct cs)) (ct':=ct+1) ?_ (nx _ (by simp[Heap.get_set]) (Fr.set _ _ _));rw[x_bsl,hp1.ev];simp only[hv,if_pos hb,if_true];rfl
end
section
variable {nt:Nat} {σ:Sl} {hp:Heap} {ct:Nat} {G:Nat→List IV} {R:Run} {L:List (Ins×Tg)}
end
def soF{α:Type}(b:Nat)(E:Rep α)(h:Heap)(a:AC)(xs:List α):Prop:=∃ g cs,a=.r (.sl b g 0 E.sz xs.length)∧h.get b=some (.cells g (cs.map I))∧rows E true cs xs
def soN{α:Type}(b:Nat)(E:Rep α)(h:Heap)(a:AC)(xs:List α):Prop:=(a=I .nilS∧xs=[])∨soF b E h a xs
theorem back_rowF{h:Heap}{pl:List (Nat×Nat×Nat)}{lent:Bool}:∀ {cs:List IV},IV.freshs cs=true→traverse (backC h pl lent) (cs.map I)=some (cs.map I)
 |[],_=>rfl
 |v::cs,e=>by
  simp only[IV.freshs,Bool.and_eq_true] at e
  rw[List.map_cons,traverse_cons,back_rowF e.2,backC_inl fun _=>e.1]
theorem sa.refs1{α:Type}{P:List Nat}{E:Rep α}{f:Bool}{hp:Heap}{a:AC}{xs:List α}(h:sa P E f hp a xs):refsOf [] [.c a]=[]:=by
 rcases h with ⟨v,rfl,h⟩|⟨rfl,rfl⟩|⟨rfl,rfl⟩|⟨b,g,off,cs,c,hb,rfl,_⟩
 ·simp[refsOf,List.zipIdx,A1.cells,refC,refR,ddup]
 ·simp[refsOf,List.zipIdx,A1.cells,refC,refR,ddup]
 ·simp[refsOf,List.zipIdx,A1.cells,refC,refR,ddup]
 ·simp[refsOf,List.zipIdx,A1.cells,refC,refR,ddup]
section
variable {nt:Nat} {σ:Sl} {hp:Heap} {ct d:Nat} {G:Nat→List IV} {R:Run} {Q:Sl→Heap→Nat→Prop} {l:List Ins}
theorem k_appF{α:Type}{E:Rep α}{P':List Nat}{f2:Bool}{b g sz bytes:Nat}{x y:Opd}{v:AC}{ys zs:List α}(hx:evσ nt σ x=.v (.c (.r (.sl b g 0 sz 0))))(hb:hp.get b=some (.cells g []))(hy:evσ nt σ y=.v (.c v))(ht:sa P' E f2 hp v ys)(hcv:∀ c,rows E f2 c ys→rows E true c ys)(e:app bytes ([]:List α) ys=some zs)(hz:E.sz=sz)
  (nx:∀ a' hp' ct',soF b E hp' a' zs→Fr [b] hp hp'→wpL G R nt l Q (upd σ d (.v (.c a'))) hp' ct'):wpL G R nt (.op (some d) none (.app sz bytes false x y)::l) Q σ hp ct:=by
 subst hz;unfold app at e;split at e
 ·rename_i hbd
  have e:=Option.some.inj e;subst e;have hstr:isStrC v=false:=by
   rcases ht with ⟨v,rfl,⟨rfl,rfl⟩|⟨rfl,rfl⟩|⟨t,c,rfl,h4,h5⟩⟩|⟨rfl,rfl⟩|⟨rfl,rfl⟩|⟨b,g,off,cs,c,hb,rfl,h4⟩<;>rfl
  obtain ⟨c,hc0,hcs⟩:=ht.cells;have hrow:hp.row b g=some []:=row_of hb;have hbd':ys.length*bytes≤17592186044416∧ys.length≤17592186044416:=by simpa using hbd
  refine k_op (v:=.v (.c (.r (.sl b ct 0 E.sz ys.length)))) (hp':=hp.set b (.cells ct (c.map I))) (ct':=ct+1) ?_ (nx _ _ _ ⟨ct,c,by simp,by simp[Heap.get_set],hcv c hc0⟩ (Fr.set _ _ _));rw[x_app,hx,hy];simp only[hstr,if_true,hcs,hrow];simp[hbd']
 ·simp at e
theorem k_callOF{α β:Type}{E:Rep α}{E2:Rep β}{PL:List Nat}{f2:Bool}{f b0:Nat}{x:Opd}{a:AC}{a1:A1}{P:List A1→Heap→Prop}{xs:List α}{ys:List β}
  (hd:hp.get d=none) (hx:evσ nt σ x=.v (.c a)) (hs:sa PL E2 f2 hp a ys) (ht:to1 true hp [] (.c a)=some a1) (hc:ownC R f [a1] [] P) (hP:∀ rs h,P rs h→∃ a,rs=[.c a]∧soN b0 E h a xs) (hlt:b0<PB)
  (n:∀ a' hp',so [d] E true hp' a' xs→Fr [d] hp hp'→wpL G R nt l Q (upd σ d (resV [.c a'])) hp' (ct+1)) :
  wpL G R nt (.op (some d) none (.call f [x] {give:=[],ad:=[(PB,d)],pure:=false})::l) Q σ hp ct:=by
 obtain ⟨rs,h,h1,h2⟩:=hc;obtain ⟨r,rfl,hr⟩:=hP _ _ h2;have e1:traverse (fun o=>(evσ nt σ o).one) [x]=some [.c a]:=by simp[traverse,hx,AV.one]
 have e2:traverse (to1 true hp []) [A1.c a]=some [a1]:=by simp[traverse,ht]
 have hrf:=hs.refs1;rcases hr with ⟨rfl,rfl⟩|⟨g,cs,rfl,hg,hrw⟩
 ·refine k_op (v:=resV [.c (I .nilS)]) (hp':=hp) (ct':=ct+1) ?_ (n _ _ (.inl ⟨rfl,rfl⟩) (Fr.refl _ _))
  have ea:adOf [(PB,d)] [.c (I .nilS)] h=[]:=by simp[adOf]
  have eb:∀ lent,traverse (back1 h [] lent) [.c (I .nilS)]=some [.c (I .nilS)]:=fun lent=>by cases lent<;>rfl
  simp only[opK,evals_mk,e1,doCall,Bool.false_eq_true,if_false,mkS_hp,mkS_ct,hrf,e2,show handOver hp []=some [] from rfl,h1,ea];simp[placesOf,backH,nodupB,eb]
 ·have hcur:h.cur b0=some g:=Heap.cur_of_get hg
  have hfr:IV.freshs cs=true:=by
   have:=sv_fresh (sv_lit true hrw (n:=xs.length) rfl)
   simpa[IV.fresh] using this
  have hlen:=rows_len hrw;refine k_op (v:=resV [.c (.r (.sl d ct 0 E.sz xs.length))]) (hp':=hp.set d (.cells ct (cs.map I))) (ct':=ct+1) ?_
   (n _ _ (.inr (.inr ⟨d,ct,0,cs,cs,List.mem_singleton.2 rfl,rfl,by simp[Heap.row,Heap.get_set],hrw,by omega,by rw[List.drop_zero,List.take_of_length_le (by omega)]⟩)) (Fr.set d _ hp))
  have ea:adOf [(PB,d)] [.c (.r (.sl b0 g 0 E.sz xs.length))] h=[(b0,d)]:=by simp[adOf,hlt]
  have eb:∀ lent,traverse (back1 h [(b0,d,ct)] lent) [.c (.r (.sl b0 g 0 E.sz xs.length))]=some [.c (.r (.sl d ct 0 E.sz xs.length))]:=fun lent=>by
   simp[traverse,back1,backC,backR,backAt,hcur]
  have eh:∀ lent,backH h [(b0,d,ct)] lent [(b0,d,ct)] hp=some (hp.set d (.cells ct (cs.map I))):=fun lent=>by
   simp only[backH,hg,backB,back_rowF hfr,Option.map_some]
  simp only[opK,evals_mk,e1,doCall,Bool.false_eq_true,if_false,mkS_hp,mkS_ct,hrf,e2,show handOver hp []=some [] from rfl,h1,ea];simp[placesOf,nodupB,hd,hlt,eb,eh]
end
end Go.Abs
namespace Go.Abs
open Go
set_option maxRecDepth 100000
set_option maxHeartbeats 1000000
def clrF{α:Type}(l:List α)(m:Int)(z:α):Option (List α):=if 0≤m∧m≤l.length then some (l.take m.toNat++List.replicate (l.length-m.toNat) z) else none
section
variable {nt:Nat} {σ:Sl} {hp:Heap} {ct d:Nat} {G:Nat→List IV} {R:Run} {Q:Sl→Heap→Nat→Prop} {l:List Ins}
theorem k_slcX{α:Type}{E:Rep α}{P:List Nat}{f:Bool}{sz:Nat}{x:Opd}{lo hi:Option Opd}{a:AC}{xs r:List α}{m n:Int}(hx:evσ nt σ x=.v (.c a))(hs:so P E f hp a xs)(hn:nn a)(h1:Bnd nt σ (0:Nat) lo m)(h2:Bnd nt σ xs.length hi n)
  (e:sub xs m n=some r) (hz:E.sz=sz) (nx:∀ a',so P E f hp a' r→nn a'→wpL G R nt l Q (upd σ d (.v (.c a'))) hp ct):wpL G R nt (.op (some d) none (.slc sz x lo hi none)::l) Q σ hp ct:=by
 subst hz;obtain ⟨c1,c2,c3,rfl⟩:=sub_is e;have b1:=fun hp ct=>bnd_nat (hp:=hp) (ct:=ct) h1 c1;have b2:=fun hp ct=>bnd_nat (hp:=hp) (ct:=ct) h2 (Int.le_trans c1 c2);obtain ⟨b,g,off,cs,c,hb,rfl,h4,h5,h6,h7⟩:=hs.nnp hn;have hlen:((xs.drop m.toNat).take (n.toNat-m.toNat)).length=n.toNat-m.toNat:=by simp;omega
 have hle:m.toNat≤n.toNat∧n.toNat≤xs.length:=by omega
 have hmul:m.toNat*E.sz+(n.toNat-m.toNat)*E.sz≤xs.length*E.sz:=by rw[← Nat.add_mul];exact Nat.mul_le_mul_right _ (by omega)
 refine k_op (v:=.v (.c (.r (.sl b g (off+m.toNat*E.sz) E.sz (n.toNat-m.toNat))))) (hp':=hp) (ct':=ct) ?_ (nx _ (.inr (.inr ⟨b,g,off+m.toNat*E.sz,cs,(c.drop (m.toNat*E.sz)).take ((n.toNat-m.toNat)*E.sz),hb,by rw[hlen],h4,(rows_split _ (rows_split _ h5).2).1,?_,?_⟩)) nn_sl)
 ·simp only[opK,step,ev_mk,hx,b1,b2,mkS_hp,mkS_ct,(Heap.row_eq h4).2,hle,and_self,if_true]
 ·rw[hlen];omega
 ·rw[hlen,← h7,List.drop_take,List.take_take,List.drop_drop,Nat.min_eq_left (by omega)]
theorem k_slcClr{α:Type}{E:Rep α}{P:List Nat}{f:Bool}{sz:Nat}{x:Opd}{lo:Option Opd}{a:AC}{xs r:List α}{m:Int}{z:List IV}{u:α}(hd:Nat.ble (d+1) nt=true)(hx:evσ nt σ x=.v (.c a))(hs:so P E f hp a xs)(hn:nn a)(h1:Bnd nt σ (0:Nat) lo m)
  (e:clrF xs m u=some r) (hz:E.sz=sz) (hu:E.rp f z u) (nx:∀ v hp',so P E f hp' a r→Fr P hp hp'→wpL G R nt l Q (upd σ d v) hp' ct) :
  wpL G R nt (.op (some d) none (.slc sz x lo none none)::.op none none (.clr sz z (.t d))::l) Q σ hp ct:=by
 subst hz;unfold clrF at e;split at e
 ·rename_i hc
  obtain ⟨c1,c3⟩:=hc;have e:=Option.some.inj e;subst e;have b1:=fun hp ct=>bnd_nat (hp:=hp) (ct:=ct) h1 c1;have b2:∀ hp ct,bound xs.length (mkS nt σ hp ct) none=some xs.length:=fun _ _=>rfl;obtain ⟨b,g,off,cs,c,hb,rfl,h4,h5,h6,h7⟩:=hs.nnp hn;have hle:m.toNat≤xs.length∧xs.length≤xs.length:=by omega
  have hmul:m.toNat*E.sz+(xs.length-m.toNat)*E.sz=xs.length*E.sz:=by rw[← Nat.add_mul];congr 1;omega
  refine k_op (v:=.v (.c (.r (.sl b g (off+m.toNat*E.sz) E.sz (xs.length-m.toNat))))) (hp':=hp) (ct':=ct) ?_ ?_
  ·simp only[opK,step,ev_mk,hx,b1,b2,mkS_hp,mkS_ct,(Heap.row_eq h4).2,hle,and_self,if_true]
  have hdn:d<nt:=Nat.le_of_ble_eq_true hd;have ev2:evσ nt (updO σ (some d) (.v (.c (.r (.sl b g (off+m.toNat*E.sz) E.sz (xs.length-m.toNat)))))) (.t d)=.v (.c (.r (.sl b g (off+m.toNat*E.sz) E.sz (xs.length-m.toNat)))):=by
   rw[evσ_t,if_pos hdn];simp[updO,upd]
  by_cases h0:xs.length-m.toNat=0
  ·refine k_op (v:=.und) (hp':=hp) (ct':=ct) ?_ (nx _ _ ?_ (Fr.refl _ _))
   ·rw[x_clr,ev2]
    simp only[h0,if_true,(Heap.row_eq h4).2]
   ·have:xs.take m.toNat++List.replicate (xs.length-m.toNat) u=xs:=by rw[h0,List.take_of_length_le (by omega)];simp
    rw[this];exact hs
  ·generalize hM:m.toNat*E.sz=M at *
   generalize hK:xs.length-m.toNat=K at *;have hzl:=E.len hu;have hZ:rows E f (List.replicate K z).flatten (List.replicate K u):=rows_replicate hu K;have hZl:=rows_len hZ;rw[List.length_replicate] at hZl;generalize hZZ:(List.replicate K z).flatten=Z at *;have hlay:lay (cs.map I) (off+M) (repC K z)=(cs.take (off+M)++Z++cs.drop (off+M+K*E.sz)).map I:=by simp[lay,repC_flat,hZZ,hZl]
   have hc1:c.take M=(cs.drop off).take M:=by rw[← h7,List.take_take,Nat.min_eq_left (by omega)]
   have hcM:(c.take M).length=M:=by rw[hc1];simp;omega
   refine k_op (v:=.und) (hp':=hp.set b (.cells g (lay (cs.map I) (off+M) (repC K z)))) (ct':=ct) ?_ (nx _ _ (.inr (.inr ⟨b,g,off,cs.take (off+M)++Z++cs.drop (off+M+K*E.sz),c.take M++Z,hb,?_,?_,?_,?_,?_⟩)) (fun q hq=>by rw[Heap.get_set,if_neg];rintro rfl;exact hq hb))
   ·rw[x_clr,ev2]
    simp only[h0,if_false,h4];rw[if_pos ⟨trivial,hzl,by rw[List.length_map];omega⟩]
   ·congr 2;simp;omega
   ·rw[hlay];simp[Heap.row,Heap.get_set]
   ·have:=(rows_split m.toNat h5).1
    rw[hM] at this;exact rows_append hZ this
   ·simp[hZl];have:(min m.toNat xs.length+K)=xs.length:=by omega
    rw[this];omega
   ·have hoff:off≤(cs.take (off+M)).length:=by simp;omega
    have e1:(cs.take (off+M)).drop off=c.take M:=by rw[hc1,List.drop_take];congr 1;omega
    have hlen:(xs.take m.toNat++List.replicate K u).length*E.sz=(c.take M++Z).length:=by
     rw[List.length_append (as:=c.take M),hcM,hZl];have:(xs.take m.toNat++List.replicate K u).length=xs.length:=by simp;omega
     rw[this];omega
    rw[List.append_assoc,List.drop_append_of_le_length hoff,e1,← List.append_assoc,hlen,List.take_left]
 ·simp at e
end
end Go.Abs
namespace Go.Abs
open Go
set_option maxRecDepth 100000
section
variable {nt:Nat} {σ:Sl} {hp:Heap} {ct d:Nat} {G:Nat→List IV} {R:Run} {Q:Sl→Heap→Nat→Prop} {l:List Ins}
end
section
variable {nt:Nat} {σ:Sl} {hp:Heap} {ct d:Nat} {G:Nat→List IV} {R:Run} {Q:Sl→Heap→Nat→Prop} {l:List Ins} {x:Opd}
end
structure R1{α:Type}(E:Rep α)(T:XT α)(iv:α→IV):Prop where
  sz:E.sz=1
  cell:∀ x,T.cell x=I (iv x)
  of:∀ x,T.of (I (iv x))=some x
  rp:∀ f c x,E.rp f c x↔c=[iv x]
theorem R1.rows{α:Type}{E:Rep α}{T:XT α}{iv:α→IV}(h:R1 E T iv){f:Bool}:∀ {xs:List α} {c:List IV},rows E f c xs↔c=xs.map iv
 |[],c=>by simp[Abs.rows]
 |x::xs,c=>by
  constructor
  ·rintro ⟨a,b,rfl,h1,h2⟩
   rw[h.rp] at h1
   rw[R1.rows h] at h2
   rw[h1,h2];rfl
  ·rintro rfl
   exact ⟨[iv x],_,rfl,(h.rp _ _ _).2 rfl,(R1.rows h).2 rfl⟩
theorem r1_str:R1 Rep.str XT.str IV.str:=⟨rfl,fun _=>rfl,fun _=>rfl,fun _ _ _=>Iff.rfl⟩
theorem R1.trav{α:Type}{E:Rep α}{T:XT α}{iv:α→IV}(h:R1 E T iv):∀ xs:List α,traverse T.of ((xs.map iv).map I)=some xs
 |[]=>rfl
 |x::xs=>by simp only[List.map_cons,traverse,h.of,h.trav xs]
theorem row_own{α:Type}[Inhabited α]{E:Rep α}{T:XT α}{iv:α→IV}(h1:R1 E T iv){new:List α→List α}{len:List α→Option Nat}(hnew:∀ xs,(new xs).length=xs.length)(hle:∀ xs m,len xs=some m→m≤xs.length){bs:List Blk}{a0:AC}{xs:List α}(h0:so [PB] E true (heap0 bs) a0 xs)(hn:xs.length≤1000000000) :
  (len xs=none→len []=none→∃ h,xRow T new len [.c a0] bs=some ([],h)∧so [PB] E true h a0 (new xs))∧∀ m,len xs=some m→∃ a h,xRow T new len [.c a0] bs=some ([.c a],h)∧so [PB] E true h a ((new xs).take m)∧(∀ v,a0=I v→a=I v)∧(nn a0→nn a):=by
 have hnil:new []=[]:=List.length_eq_zero_iff.1 (by rw[hnew];rfl);rcases h0 with ⟨rfl,rfl⟩|⟨rfl,rfl⟩|⟨b,g,off,cs,c,hb,rfl,h4,h5,h6,h7⟩
 ·exact ⟨fun _ e=>⟨hpOf bs,by simp only[xRow,e],.inl ⟨rfl,hnil⟩⟩,fun m e=>⟨I .nilS,hpOf bs,by simp only[xRow,e],.inl ⟨rfl,by rw[hnil];simp⟩,fun _ e=>e,fun q=>by obtain ⟨_,_,_,_,_,q⟩:=q;simp at q⟩⟩
 ·exact ⟨fun _ e=>⟨hpOf bs,by simp only[xRow,e],.inr (.inl ⟨rfl,hnil⟩)⟩,fun m e=>⟨I .emp,hpOf bs,by simp only[xRow,e],.inr (.inl ⟨rfl,by rw[hnil];simp⟩),fun _ e=>e,fun q=>by obtain ⟨_,_,_,_,_,q⟩:=q;simp at q⟩⟩
 ·obtain rfl:b=PB:=by simpa using hb
  rw[h1.sz,Nat.mul_one] at h6 h7;have h5':=h1.rows.1 h5;have hz:traverse T.of (((cs.map I).drop off).take xs.length)=some xs:=by
   rw[← List.map_drop,← List.map_take,h7,h5',h1.trav]
  have hrow:(hpOf bs).row PB g=some (cs.map I):=h4;have hfit:off+xs.length≤(cs.map I).length:=by simpa using h6
  have hx:∀ v,(match len xs with|some m=>[A1.c (.r (.sl PB g off 1 m))]|none=>[])=v→xRow T new len [.c (.r (.sl PB g off E.sz xs.length))] bs=some (v,(hpOf bs).set PB (.cells g (lay (cs.map I) off ((new xs).map T.cell)))):=by
   rintro v rfl;rw[h1.sz];simp only[xRow,true_and,hn,if_true,hrow,hfit,hz]<;>rfl
  -- the row,as it lies then
  have hlay:lay (cs.map I) off ((new xs).map T.cell)=(cs.take off++(new xs).map iv++cs.drop (off+xs.length)).map I:=by
   have:(new xs).map T.cell=((new xs).map iv).map I:=by rw[List.map_map];exact List.map_congr_left fun x _=>h1.cell x
   rw[this];simp[lay,hnew]
  have hfin:∀ m,m≤xs.length→so [PB] E true ((hpOf bs).set PB (.cells g (lay (cs.map I) off ((new xs).map T.cell)))) (.r (.sl PB g off E.sz m)) ((new xs).take m):=by
   intro m hm;have hml:((new xs).take m).length=m:=by rw[List.length_take,hnew];omega
   refine .inr (.inr ⟨PB,g,off,cs.take off++(new xs).map iv++cs.drop (off+xs.length),((new xs).take m).map iv,by simp,by rw[hml],?_,h1.rows.2 rfl,?_,?_⟩)
   ·rw[hlay];simp[Heap.row,Heap.get_set]
   ·rw[hml,h1.sz];simp[hnew];omega
   ·rw[hml,h1.sz,Nat.mul_one]
    have e1:(cs.take off).length=off:=by rw[List.length_take];omega
    rw[List.append_assoc,List.drop_append_of_le_length (by omega),List.drop_eq_nil_of_le (by omega),List.nil_append,List.take_append_of_le_length (by simp[hnew];omega),List.map_take]
  refine ⟨fun e _=>⟨_,hx _ (by rw[e]),?_⟩,fun m e=>⟨_,_,hx _ (by rw[e]),?_,fun v q=>by simp at q,fun _=>nn_sl⟩⟩
  ·have:=hfin xs.length (Nat.le_refl _)
   rwa [← hnew xs,List.take_length,hnew xs] at this
  ·have:=hfin m (hle xs m e)
   rwa [h1.sz] at this
section
variable {nt:Nat} {σ:Sl} {hp:Heap} {ct d:Nat} {G:Nat→List IV} {R:Run} {Q:Sl→Heap→Nat→Prop} {l:List Ins}
end
end Go.Abs
namespace Go.Abs
open Go
set_option maxRecDepth 100000
set_option maxHeartbeats 1000000
section
variable {nt:Nat} {σ:Sl} {hp:Heap} {ct d:Nat} {G:Nat→List IV} {R:Run} {Q:Sl→Heap→Nat→Prop} {l:List Ins}
end
def mkV{α:Type}(xs:List α)(k:Int):Option Int:=if 0≤k∧k<xs.length then some k else none
def vwD{α:Type}(xs:List α)(k:Int):List α:=xs.drop k.toNat
def vw{α:Type}(E:Rep α)(a a':AC)(k:Int):Prop:=∃ b g off n,a=.r (.sl b g off E.sz n)∧a'=.r (.sl b g (off+k.toNat*E.sz) E.sz (n-k.toNat))∧0≤k∧k.toNat<n
def clrV{α:Type}(l:List α)(m:Int)(z:α):Option (List α):=if m<l.length then clrF l m z else none
theorem so.vw{α:Type}{E:Rep α}{P:List Nat}{f:Bool}{hp:Heap}{a a':AC}{xs:List α}{k:Int}(h:so P E f hp a xs)(v:vw E a a' k):so P E f hp a' (vwD xs k):=by
 obtain ⟨b,g,off,n,rfl,rfl,h0,h1⟩:=v;rcases h with ⟨h,_⟩|⟨h,_⟩|⟨b',g',off',cs,c,hb,h,h4,h5,h6,h7⟩
 ·simp[I] at h
 ·simp[I] at h
 ·injection h with h
  injection h with e1 e2 e3 e4 e5;subst e1 e2 e3 e5;have hmul:k.toNat*E.sz+(xs.length-k.toNat)*E.sz=xs.length*E.sz:=by rw[← Nat.add_mul];congr 1;omega
  have hl:(vwD xs k).length=xs.length-k.toNat:=by simp[vwD]
  refine .inr (.inr ⟨b,g,off+k.toNat*E.sz,cs,c.drop (k.toNat*E.sz),hb,by rw[hl],h4,(rows_split _ h5).2,?_,?_⟩)
  ·rw[hl];omega
  ·rw[hl,← h7,List.drop_take,List.drop_drop]
   congr 1;omega
theorem vw.nn{α:Type}{E:Rep α}{a a':AC}{k:Int}(v:vw E a a' k):nn a:=by
 obtain ⟨b,g,off,n,rfl,_⟩:=v;exact nn_sl
theorem nn.noI{a b:AC}(h:nn a):∀ v,a=I v→b=I v:=by
 rintro v rfl;obtain ⟨_,_,_,_,_,q⟩:=h;simp[I] at q
section
variable {nt:Nat} {σ:Sl} {hp:Heap} {ct d:Nat} {G:Nat→List IV} {R:Run} {Q:Sl→Heap→Nat→Prop} {l:List Ins}
theorem k_slcV{α:Type}{E:Rep α}{P:List Nat}{f:Bool}{sz:Nat}{x:Opd}{lo:Option Opd}{a:AC}{xs:List α}{m k:Int}(hx:evσ nt σ x=.v (.c a))(hs:so P E f hp a xs)(h1:Bnd nt σ (0:Nat) lo m)
  (e:mkV xs m=some k) (hz:E.sz=sz) (nx:∀ a',vw E a a' k→wpL G R nt l Q (upd σ d (.v (.c a'))) hp ct):wpL G R nt (.op (some d) none (.slc sz x lo none none)::l) Q σ hp ct:=by
 subst hz;unfold mkV at e;split at e
 ·rename_i hc
  obtain ⟨c1,c3⟩:=hc;have e:=Option.some.inj e;subst e;have b1:=fun hp ct=>bnd_nat (hp:=hp) (ct:=ct) h1 c1;have b2:∀ hp ct,bound xs.length (mkS nt σ hp ct) none=some xs.length:=fun _ _=>rfl;have hn:nn a:=hs.nn_of (by rintro rfl;simp at c3;omega);obtain ⟨b,g,off,cs,c,hb,rfl,h4,h5,h6,h7⟩:=hs.nnp hn;have hle:m.toNat≤xs.length∧xs.length≤xs.length:=by omega
  refine k_op (v:=.v (.c (.r (.sl b g (off+m.toNat*E.sz) E.sz (xs.length-m.toNat))))) (hp':=hp) (ct':=ct) ?_ (nx _ ⟨b,g,off,xs.length,rfl,rfl,c1,by omega⟩);simp only[opK,step,ev_mk,hx,b1,b2,mkS_hp,mkS_ct,(Heap.row_eq h4).2,hle,and_self,if_true]
 ·simp at e
theorem k_slcClrV{α:Type}{E:Rep α}{P:List Nat}{f:Bool}{sz:Nat}{x:Opd}{lo:Option Opd}{a:AC}{xs r:List α}{m:Int}{z:List IV}{u:α}(hd:Nat.ble (d+1) nt=true)(hx:evσ nt σ x=.v (.c a))(hs:so P E f hp a xs)(h1:Bnd nt σ (0:Nat) lo m)
  (e:clrV xs m u=some r) (hz:E.sz=sz) (hu:E.rp f z u) (nx:∀ v hp',so P E f hp' a r→Fr P hp hp'→wpL G R nt l Q (upd σ d v) hp' ct) :
  wpL G R nt (.op (some d) none (.slc sz x lo none none)::.op none none (.clr sz z (.t d))::l) Q σ hp ct:=by
 unfold clrV at e;split at e
 ·rename_i hc
  have h0:0≤m:=by
   unfold clrF at e;split at e
   ·rename_i h;exact h.1
   ·simp at e
  exact k_slcClr hd hx hs (hs.nn_of (by rintro rfl;simp at hc;omega)) h1 e hz hu nx
 ·simp at e
end
end Go.Abs
namespace Go.Abs
section
variable {nt:Nat} {σ:Sl} {hp:Heap} {ct d:Nat} {G:Nat→List IV} {R:Run} {Q:Sl→Heap→Nat→Prop} {l:List Ins}
theorem k_callSR2{α:Type}{E:Rep α}{PL:List Nat}{f1 f2:Bool}{f:Nat}{x:Opd}{args:List Opd}{a:AC}{as as':List A1}{O:AC→List A1→Heap→Prop}{xs zs:List α}
  (hst:∀ c,rows E false c xs→rows E f2 c xs) (hx:evσ nt σ x=.v (.c a)) (hs:so PL E f1 hp a xs) (ha:∀ ids,ArgsP nt σ hp ids args as as') (hi:as.all A1.inl=true)
  (hc:∀ a0 bs,so [PB] E f2 (heap0 bs) a0 xs→ownC R f (.c a0::as') bs (O a0))
  (hP:∀ a0 rs h,O a0 rs h→∃ r,rs=[.c r]∧so [PB] E f2 h r zs∧(∀ v,a0=I v→r=I v)∧(nn a0→nn r))
  (n:∀ a' hp' ct',so PL E f2 hp' a' zs→Fr PL hp hp'→(∀ v,a=I v→a'=I v)→(nn a→nn a')→wpL G R nt l Q (upd σ d (.v (.c a'))) hp' ct') :
  wpL G R nt (.op (some d) none (.call f (x::args) {give:=[(0,0)],ad:=[],pure:=false})::l) Q σ hp ct:=by
 have nil:∀ v:IV,v.retag 1=v→a=I v→so [PB] E f2 (heap0 []) (I v) xs→wpL G R nt (.op (some d) none (.call f (x::args) {give:=[(0,0)],ad:=[],pure:=false})::l) Q σ hp ct:=by
  rintro v hv rfl h0;obtain ⟨rs,h,hR,hO⟩:=hc (I v) [] h0;obtain ⟨r,rfl,hs2,hv2,_⟩:=hP _ _ _ hO;obtain rfl:=hv2 v rfl;have hids:refsOf [(0,0)] (.c (I v)::as)=[]:=by
   unfold refsOf;rw[List.zipIdx_cons,List.flatMap_cons,refs_none hi];simp[A1.cells,List.zipIdx,refC,refR,ddup]
  have hlent:((A1.c (I v)::as).any fun a=>a.cells.any (lentC []))=false:=by
   rw[List.any_cons,lent_none hi];simp[A1.cells,lentC,lentR]
  have hto:traverse (to1 true hp []) (.c (I v)::as)=some (.c (I v)::as'):=by
   rw[traverse_cons,(ha []).ev.2];simp[to1,toC,toR,hv]
  have eev:traverse (fun o=>(evσ nt σ o).one) (x::args)=some (.c (I v)::as):=by
   rw[traverse_cons,hx,(ha []).ev.1];rfl
  have hw:so PL E f2 hp (I v) zs:=by
   rcases hs2 with ⟨e,r⟩|⟨e,r⟩|⟨_,_,_,_,_,_,e,_⟩
   ·exact .inl ⟨e,r⟩
   ·exact .inr (.inl ⟨e,r⟩)
   ·simp at e
  refine k_op (v:=.v (.c (I v))) (hp':=hp) (ct':=ct+1) ?_ (n _ _ _ hw (Fr.refl _ _) (fun _ e=>e) fun e=>e);have eb:traverse (back1 h [] false) [A1.c (I v)]=some [.c (I v)]:=back_ivs h [] [v];simp only[opK,evals_mk,eev,doCall,Bool.false_eq_true,if_false,mkS_hp,mkS_ct,hids,hto,show handOver hp []=some [] from rfl,hR,hlent];simp[placesOf,adOf,backH,nodupB,eb,resV]
 rcases hs with ⟨rfl,rfl⟩|⟨rfl,rfl⟩|⟨b,g,off,cs,c,hb,rfl,h4,h5,h6,h7⟩
 ·exact nil .nilS rfl rfl (.inl ⟨rfl,rfl⟩)
 ·exact nil .emp rfl rfl (.inr (.inl ⟨rfl,rfl⟩))
 have hget:=(Heap.row_eq h4).1;have hcur:=(Heap.row_eq h4).2;have h5':rows E f2 (IV.retags 1 c) xs:=hst _ (rows_retag h5);have hso:so [PB] E f2 (heap0 [.cells 0 (List.map I (IV.retags 1 cs))]) (.r (.sl PB 0 off E.sz xs.length)) xs:=by
  refine .inr (.inr ⟨PB,0,off,IV.retags 1 cs,IV.retags 1 c,by simp,rfl,by simp[heap0,Heap.row],h5',by rw[IV.retags_length];exact h6,?_⟩);rw[← retags_drop,← retags_take,h7]
 obtain ⟨rs,h,hR,hO⟩:=hc _ _ hso;obtain ⟨r,rfl,hs2,_,hn2⟩:=hP _ _ _ hO;obtain ⟨b2,g2,off2,cs2,c2,hb2,rfl,k4,k5,k6,k7⟩:=hs2.nnp (hn2 nn_sl);obtain rfl:b2=PB:=by simpa using hb2
 have kget:=(Heap.row_eq k4).1;have kcur:=(Heap.row_eq k4).2;have ht:∀ c:List IV,traverse (toC false hp [b]) (c.map I)=some ((IV.retags 1 c).map I):=by
  intro c;induction c with
  |nil=>rfl
  |cons v c ih=>simp only[List.map_cons,traverse_cons,toC,toR,Option.map_some,ih,IV.retags]
 have hids:refsOf [(0,0)] (.c (.r (.sl b g off E.sz xs.length))::as)=[b]:=by
  unfold refsOf;rw[List.zipIdx_cons,List.flatMap_cons,refs_none hi];simp[A1.cells,List.zipIdx,refC,refR,ddup]
 have hlent:((A1.c (.r (.sl b g off E.sz xs.length))::as).any fun a=>a.cells.any (lentC [b]))=false:=by
  rw[List.any_cons,lent_none hi];simp[A1.cells,lentC,lentR,idxOf]
 have hto:traverse (to1 true hp [b]) (.c (.r (.sl b g off E.sz xs.length))::as)=some (.c (.r (.sl PB 0 off E.sz xs.length))::as'):=by
  rw[traverse_cons,(ha [b]).ev.2];simp[to1,toC,toR,idxOf,hcur]
 have hho:handOver hp [b]=some [.cells 0 (List.map I (IV.retags 1 cs))]:=by
  simp[handOver,traverse,hget,toB,ht cs]
 have eev:traverse (fun o=>(evσ nt σ o).one) (x::args)=some (.c (.r (.sl b g off E.sz xs.length))::as):=by
  rw[traverse_cons,hx,(ha []).ev.1];rfl
 obtain ⟨γ,hγ⟩:∃ γ,γ=(if h.cur PB=some 0 then g else ct):=⟨_,rfl⟩;have hrow:(hp.set b (.cells γ (cs2.map I))).row b γ=some (cs2.map I):=by simp[Heap.row,Heap.get_set]
 refine k_op (v:=.v (.c (.r (.sl b γ off2 E.sz zs.length)))) (hp':=hp.set b (.cells γ (cs2.map I))) (ct':=ct+1) ?_
  (n _ _ _ (.inr (.inr ⟨b,γ,off2,cs2,c2,hb,rfl,hrow,k5,k6,k7⟩)) (fun q hq=>by rw[Heap.get_set,if_neg];rintro rfl;exact hq hb) (fun v e=>by cases e) fun _=>nn_sl)
 have eb:traverse (back1 h [(PB,b,γ)] false) [A1.c (.r (.sl PB g2 off2 E.sz zs.length))]=some [.c (.r (.sl b γ off2 E.sz zs.length))]:=by
  simp[traverse,back1,backC,backR,backAt,kcur]
 have eh:backH h [(PB,b,γ)] false [(PB,b,γ)] hp=some (hp.set b (.cells γ (cs2.map I))):=by
  simp only[backH,kget,backB,back_row,Option.map_some]
 have ead:adOf [] [A1.c (.r (.sl PB g2 off2 E.sz zs.length))] h=[]:=by simp[adOf]
 have epl:placesOf h hp ct [b] []=[(PB,b,γ)]:=by
  simp[placesOf,hcur,hγ]
 simp only[opK,evals_mk,eev,doCall,Bool.false_eq_true,if_false,mkS_hp,mkS_ct,hids,hto,hho,hR,hlent,ead,epl,eb,eh];simp[nodupB,resV]
end
def mpn{κ β:Type}(P:List Nat)(K:SK κ)(iv:β→IV)(hp:Heap)(a:AC)(m:List (κ×β)):Prop:=(a=I .nilM∧m=[])∨mp P K iv hp a m
section
variable {κ β:Type} {K:SK κ} {iv:β→IV} {hp hp':Heap} {a:AC} {m:List (κ×β)} {P P':List Nat}
theorem mpn.fr(h:mpn P K iv hp a m)(k:Fr P' hp hp')(hd:P.all (fun b=>!P'.contains b)=true):mpn P K iv hp' a m:=h.imp id fun h=>h.fr k hd
end
section
variable {κ β:Type} [D:DecidableEq κ] {K:SK κ} {iv:β→IV} {nt:Nat} {σ:Sl} {hp:Heap} {ct d:Nat} {G:Nat→List IV} {R:Run} {Q:Sl→Heap→Nat→Prop} {l:List Ins} {P:List Nat} {a:AC} {m:List (κ×β)} {x ko:Opd}
theorem k_lkpN{zero:IV}{key:κ}{z:β}(hx:evσ nt σ x=.v (.c a))(hm:mpn P K iv hp a m)(hk:evσ nt σ ko=.v (K.a1 key))(hz:zero=iv z)
  (nx:wpL G R nt l Q (upd σ d (V (iv ((mget m key).getD z)))) hp ct):wpL G R nt (.op (some d) none (.lkp K.kt [zero] false false x ko)::l) Q σ hp ct:=by
 rcases hm with ⟨rfl,rfl⟩|hm
 ·subst hz
  refine k_op (v:=V (iv z)) (hp':=hp) (ct':=ct) ?_ nx;simp only[opK,step,ev_mk,hx,hk,K.plain,mkS_hp,mkS_ct];simp[mk1,V]
 ·exact k_lkp hx hm hk hz nx
omit D in
theorem k_callMn{PL:List Nat}{f:Nat}{args:List Opd}{as as':List A1}{P:List A1→Heap→Prop}{ts:List IV}
  (hd:hp.get d=none) (ha:ArgsP nt σ hp [] args as as') (hl:(as.any fun a=>a.cells.any (lentC []))=false) (hr:refsOf [] as=[]) (hc:ownC R f as' [] P)
  (hP:∀ rs h,P rs h→∃ a,rs=.c a::ts.map (fun v=>.c (I v))∧mpn PL K iv h a m) (hPL:PL.all (fun b=>decide (b<PB))=true)
  (n:∀ a' hp',mpn [d] K iv hp' a' m→Fr [d] hp hp'→wpL G R nt l Q (upd σ d (resV (.c a'::ts.map fun v=>.c (I v)))) hp' (ct+1)) :
  wpL G R nt (.op (some d) none (.call f args {give:=[],ad:=[(PB,d)],pure:=false})::l) Q σ hp ct:=by
 obtain ⟨rs,h,h1,h2⟩:=hc;obtain ⟨a,rfl,hm⟩:=hP _ _ h2;rcases hm with ⟨rfl,rfl⟩|hm
 ·have e1:=ha.ev.1
  have e2:=ha.ev.2;refine k_op (v:=resV (.c (I .nilM)::ts.map fun v=>.c (I v))) (hp':=hp) (ct':=ct+1) ?_ (n _ _ (.inl ⟨rfl,rfl⟩) (Fr.refl _ _));have ea:adOf [(PB,d)] (.c (I .nilM)::ts.map fun v=>.c (I v)) h=[]:=by simp[adOf]
  have eb:traverse (back1 h [] false) (.c (I .nilM)::ts.map fun v=>.c (I v))=some (.c (I .nilM)::ts.map fun v=>.c (I v)):=back_ivs h [] (.nilM::ts);have eh:backH h [] false [] hp=some hp:=rfl;simp only[opK,evals_mk,e1,doCall,Bool.false_eq_true,if_false,mkS_hp,mkS_ct,hr,e2,show handOver hp []=some [] from rfl,h1,ea,hl];simp[placesOf,nodupB,eb,eh]
 ·exact k_callM (P:=fun rs' h'=>rs'=(.c a::ts.map fun v=>.c (I v))∧h'=h) hd ha hl hr ⟨_,h,h1,rfl,rfl⟩ (fun rs' h' q=>⟨a,q.1,q.2 ▸ hm⟩) hPL fun a' hp' q=>n a' hp' (.inr q)
end
theorem loopO_ind{S E:Type}{step:S→Option (S⊕E)}(P:S→Prop)(Q:E→Prop)(m:S→Nat)
  (h:∀ s,P s→(∃ e,step s=some (.inr e)∧Q e)∨∃ s',step s=some (.inl s')∧P s'∧m s'<m s):∀ s,P s→∃ e,loopO step s=some e∧Q e:=by
 have key:∀ n s,m s=n→P s→∃ e,loopO step s=some e∧Q e:=by
  intro n;induction n using Nat.strongRecOn with
  |_ n ih =>
   intro s hs hP;rcases h s hP with ⟨e,h1,h2⟩|⟨s',h1,h2,h3⟩
   ·exact ⟨e,by rw[loopO_eq,h1],h2⟩
   ·obtain ⟨e,h4,h5⟩:=ih (m s') (by omega) s' rfl h2
    exact ⟨e,by rw[loopO_eq,h1];exact h4,h5⟩
 exact fun s hP=>key _ s rfl hP
theorem loop_for{S E:Type}{step:S→Option (S⊕E)}{N:Nat}(st:Nat→S)(e:E)(h1:∀ k,k<N→step (st k)=some (.inl (st (k+1))))(h2:step (st N)=some (.inr e)):loopO step (st 0)=some e:=by
  have key:∀ d k,k+d=N→loopO step (st k)=some e:=by
    intro d;induction d with
    | zero => intro k hk; obtain rfl : k = N := by omega
              rw[loopO_eq,h2]
    |succ d ih=>intro k hk;rw[loopO_eq,h1 k (by omega)];exact ih (k+1) (by omega)
  exact key N 0 (by omega)
theorem idx_nat{α:Type}(l:List α)(k:Nat):idx l (k:Int)=l[k]?:=by simp[idx]
theorem idx_at{α:Type}{l:List α}{k:Nat}(h:k<l.length):idx l (k:Int)=some l[k]:=by simp[idx,h]
theorem idx_of{α:Type}{l:List α}{n:Int}(h0:0≤n)(h:n<l.length):∃ x,idx l n=some x∧x∈l:=by
 have:n.toNat<l.length:=by omega
 exact ⟨l[n.toNat],by simp[idx,h0,this],List.getElem_mem _⟩
theorem w64{n:Int}(h1 : -9223372036854775808≤n)(h2:n≤9223372036854775807):IntKind.wrap .i64 n=n:=wrap_i64 h1 h2
theorem app_of{α:Type}{b:Nat}{l m:List α}(h:(l.length+m.length)*b≤17592186044416)(h2:l.length+m.length≤17592186044416):app b l m=some (l++m):=by simp[app,h,h2]
theorem emod_tmod(x n:Int)(hn:1≤n):x % n=if x.tmod n<0 then x.tmod n+n else x.tmod n:=by
 have hlt:x.tmod n<n:=Int.tmod_lt_of_pos _ (by omega);have hgt : -n<x.tmod n:=by
  have:=Int.tmod_lt_of_pos (-x) (b:=n) (by omega)
  rw[Int.neg_tmod] at this;omega
 have he:x=n*(x.tdiv n)+x.tmod n:=(Int.mul_tdiv_add_tmod x n).symm;have h1:x % n=(x.tmod n) % n:=by
  conv=>lhs;rw[he]
  exact Int.mul_add_emod_self_left ..
 rw[h1];split
 ·rw[← Int.add_emod_right,Int.emod_eq_of_lt (by omega) (by omega)]
 ·exact Int.emod_eq_of_lt (by omega) hlt
section
variable {α β : Type}
end
def foldE{α S E:Type}(f:Nat→α→S→Option (S⊕E))(fin:S→E):Nat→List α→S→Option E
  |_,[],s=>some (fin s)
  |i,a::l,s=>match f i a s with
    |none=>none
    |some (.inl s')=>foldE f fin (i+1) l s'
    |some (.inr e)=>some e
section
variable {α σ S E:Type}
theorem loop_drop{step:σ→Option (σ⊕E)}(l:List α)(enc:Nat→S→σ)(f:Nat→α→S→Option (S⊕E))(fin:S→E)
  (h:∀ i a s,l[i]?=some a→step (enc i s)=match f i a s with|none=>none|some (.inl s')=>some (.inl (enc (i+1) s'))|some (.inr e)=>some (.inr e))
  (hend:∀ s,step (enc l.length s)=some (.inr (fin s))):∀ (d i:Nat) (s:S),i+d=l.length→loopO step (enc i s)=foldE f fin i (l.drop i) s:=by
 intro d;induction d with
 |zero =>
  intro i s hi;obtain rfl:i=l.length:=by omega
  rw[loopO_eq,hend,List.drop_length];rfl
 |succ d ih =>
  intro i s hi;have hlt:i<l.length:=by omega
  rw[loopO_eq,h i l[i] s (by simp[hlt]),List.drop_eq_getElem_cons hlt];simp only[foldE];cases f i l[i] s with
  |none=>rfl
  |some r=>cases r with
   |inl s'=>exact ih (i+1) s' (by omega)
   |inr e=>rfl
theorem loop_list{step:σ→Option (σ⊕E)}(l:List α)(enc:Nat→S→σ)(f:Nat→α→S→Option (S⊕E))(fin:S→E)
  (h:∀ i a s,l[i]?=some a→step (enc i s)=match f i a s with|none=>none|some (.inl s')=>some (.inl (enc (i+1) s'))|some (.inr e)=>some (.inr e))
  (hend:∀ s,step (enc l.length s)=some (.inr (fin s))) (s:S):loopO step (enc 0 s)=foldE f fin 0 l s:=by
 have:=loop_drop l enc f fin h hend l.length 0 s (by omega)
 simpa using this
end
def idxI{α:Type}(p:α→Bool)(l:List α):Int:=match l.findIdx? p with|some i=>(i:Int)|none=>-1
section
variable {α:Type}
theorem idxI_nil(p:α→Bool):idxI p [] = -1:=rfl
theorem idxI_cons(p:α→Bool)(a:α)(l:List α):idxI p (a::l)=if p a then 0 else if idxI p l<0 then -1 else idxI p l+1:=by
 unfold idxI;rw[List.findIdx?_cons];cases p a
 ·simp only[Bool.false_eq_true,if_false]
  cases List.findIdx? p l with
  |none=>simp
  |some i=>simp;intro h;omega
 ·simp
theorem idxI_any(p:α→Bool)(l:List α):(decide (idxI p l ≥ 0))=l.any p:=by
 induction l with
 |nil=>rfl
 |cons a l ih =>
  rw[idxI_cons,List.any_cons,← ih];cases p a
  ·simp only[Bool.false_eq_true,if_false,Bool.false_or]
   by_cases h:idxI p l<0
   ·simp[h]
   ·simp[h];constructor<;>intro<;>omega
  ·simp
theorem idxI_get{p:α→Bool}{l:List α}(h:0≤idxI p l):∃ (i:Nat) (hi:i<l.length),idxI p l=i∧p l[i]=true∧∀ j (hj:j<i),p (l[j]'(by omega))=false:=by
 unfold idxI at h ⊢;cases e:List.findIdx? p l with
 |none=>rw[e] at h;simp at h
 |some i =>
  obtain ⟨h1,h2,h3⟩:=List.findIdx?_eq_some_iff_getElem.1 e;exact ⟨i,h1,rfl,h2,fun j hj=>by simpa using h3 j hj⟩
theorem idxI_neg{p:α→Bool}{l:List α}(h:idxI p l<0):∀ a∈l,p a=false:=by
 unfold idxI at h;cases e:List.findIdx? p l with
 |none=>exact fun a ha=>by simpa using (List.findIdx?_eq_none_iff.1 e) a ha
 |some i=>rw[e] at h;simp at h;omega
theorem idxI_neg'{p:α→Bool}{l:List α}(h:∀ a∈l,p a=false):idxI p l = -1:=by
 unfold idxI;rw[List.findIdx?_eq_none_iff.2 h]
theorem idxI_lt(p:α→Bool)(l:List α) : -1≤idxI p l∧idxI p l<l.length:=by
 by_cases h:0≤idxI p l
 ·obtain ⟨i,hi,e,_⟩:=idxI_get h;omega
 ·have:=idxI_neg' (idxI_neg (p:=p) (l:=l) (by omega));omega
theorem idxF_loop(l:List α)(g:α→Option Bool)(p:α→Bool)(hg:∀ a∈l,g a=some (p a))(hl:l.length≤4611686018427387904) :
  lret (loopO (fun w:Int=>(bif (decide (w<(List.length l:Int))) then ((idx l w).bind fun y=>(g y).bind fun b=>bif b then some (.inr (.inr w)) else some (.inl (IntKind.wrap .i64 (w+(1:Int))))) else some (.inr (.inl ())):Option (Int⊕(Unit⊕Int)))) (0:Int)) (fun _:Unit=>some (-1:Int)) (fun r=>some r)=some (idxI p l):=by
 have key:∀ (m:List α) (i:Nat),l.drop i=m→foldE (fun i a (_:Unit)=>(g a).map fun b=>if b then .inr (.inr (i:Int)) else .inl ()) (fun _=>(Sum.inl ():Unit⊕Int)) i m ()=some (if idxI p m<0 then .inl () else .inr ((i:Int)+idxI p m)):=by
  intro m;induction m with
  |nil=>intro i _;simp[foldE,idxI_nil]
  |cons a m ih =>
   intro i hi;have ha:a∈l:=List.mem_of_mem_drop (by rw[hi];simp);have h2:l.drop (i+1)=m:=by rw[← List.drop_drop,hi];rfl
   have h3:=ih (i+1) h2;simp only[foldE,hg a ha,Option.map_some,idxI_cons];cases p a
   ·simp only[Bool.false_eq_true,if_false]
    rw[h3];by_cases h:idxI p m<0
    ·simp[h]
    ·simp[h]
     rw[if_neg (by omega)];congr 1;omega
   ·simp
 have h:=loop_list (step:=fun w:Int=>(bif (decide (w<(List.length l:Int))) then ((idx l w).bind fun y=>(g y).bind fun b=>bif b then some (.inr (.inr w)) else some (.inl (IntKind.wrap .i64 (w+(1:Int))))) else some (.inr (.inl ())):Option (Int⊕(Unit⊕Int)))) l
  (fun i (_:Unit)=>(i:Int)) (fun i a _=>(g a).map fun b=>if b then .inr (.inr (i:Int)) else .inl ()) (fun _=>(.inl ():Unit⊕Int)) (fun i a s hi=>by
   have hlt:=(List.getElem?_eq_some_iff.1 hi).1;have ha:a∈l:=List.mem_of_getElem? hi;have hd:decide ((i:Int)<(List.length l:Int))=true:=by simpa using hlt
   simp only[hd,cond_true,idx_nat,hi,Option.bind_some,hg a ha,Option.map_some];cases p a
   ·simp only[cond_false,Bool.false_eq_true,if_false]
    rw[w64 (by omega) (by omega)];rfl
   ·rfl) (fun s=>by simp) ()
 have h0:=key l 0 (by simp);rw[h0] at h;have h1:loopO (fun w:Int=>(bif (decide (w<(List.length l:Int))) then ((idx l w).bind fun y=>(g y).bind fun b=>bif b then some (.inr (.inr w)) else some (.inl (IntKind.wrap .i64 (w+(1:Int))))) else some (.inr (.inl ())):Option (Int⊕(Unit⊕Int)))) (0:Int)=some (if idxI p l<0 then .inl () else .inr ((0:Int)+idxI p l)):=h;rw[h1];by_cases hn:idxI p l<0
 ·have:=(idxI_lt p l).1
  simp only[hn,if_true,lret];congr 1;omega
 ·simp[hn,lret]
theorem idxE_loop [BEq α](l:List α)(x:α)(hl:l.length≤4611686018427387904) :
  lret (loopO (fun w:Int=>(bif (decide (w<(List.length l:Int))) then ((idx l w).bind fun y=>bif (x==y) then some (.inr (.inr w)) else some (.inl (IntKind.wrap .i64 (w+(1:Int))))) else some (.inr (.inl ())):Option (Int⊕(Unit⊕Int)))) (0:Int)) (fun _:Unit=>some (-1:Int)) (fun r=>some r)=some (idxI (x==·) l) :=
 idxF_loop l (fun y=>some (x==y)) (x==·) (fun _ _=>rfl) hl
end
end Go.Abs
namespace Go.Abs
open Go.RowKit
structure MIt where
  b:Nat
  g:Nat
  since:Nat
  seen:List Nat
  stepped:Nat
abbrev Its:=List (Nat×MIt)
def itAt:Its→Nat→Option MIt
  |[],_=>none
  |(c,t)::l,k=>if c=k then some t else itAt l k
def itSet:Its→Nat→MIt→Its
  |[],_,_=>[]
  |(c,t)::l,k,u=>if c=k then (c,u)::l else (c,t)::itSet l k u
theorem itSet_at:∀ {l:Its} {k j:Nat} {t u:MIt},itAt l k=some t→itAt (itSet l k u) j=if k=j then some u else itAt l j
 |[],_,_,_,_,h=>by simp[itAt] at h
 |(c,t0)::l,k,j,t,u,h=>by
  simp only[itAt] at h
  simp only[itSet]
  by_cases e:c=k
  ·subst e
   simp only[if_true,itAt]
   by_cases e2:c=j
   ·simp[e2]
   ·simp[e2]
  ·rw[if_neg e] at h
   rw[if_neg e]
   simp only[itAt,itSet_at h]
   by_cases e2:c=j
   ·subst e2
    have:¬ k=c:=fun q=>e q.symm
    simp[this]
   ·simp[e2]
inductive DIns where
  |ins (x:Ins)
  |rng (d:Nat) (x:Opd)
  |nx (d:Nat) (x:Opd)
  |ent (d:Nat) (x:Opd)
  |mv (b c t:Nat)   -- only told: the map of place 'b',which slot 't' holds,is told of place 'c' from here on
inductive IRD where
  |base (x:IR)
  |reg (l:List DIns)
  |seq (a b:IRD)
  |cond (x:Opd) (a b:IRD)
  |block (id:Nat) (a:IRD)
  |loop (a:IRD)
def isMapT(P:Program)(t:Nat):Bool:=match P.underlying t with
  |some (.map _ _)=>true
  |_=>false
section
variable (G:Nat→List IV) (R:Run)
def inRound(L:St→Its→Prop)(Q:Ex→St→Its→Prop):Ex→St→Its→Prop
  |.normal,s,its=>L s its
  |e,s,its=>Q e s its
def loopW(f:St→Its→(Ex→St→Its→Prop)→Prop)(Q:Ex→St→Its→Prop)(s:St)(its:Its):Prop :=
  ∀ L:St→Its→Prop,(∀ s its,f s its (inRound L Q)→L s its)→L s its
variable {G R}
end
section
variable {P:Program} {X:Cx} {G:Nat→List IV} {R:Run} {E0 E:Env} {M:Nat→Nat} {s:St} {its:Its} {a:Act}
end
structure FnD where
  nt:Nat
  res:List Res
  body:IRD
section
variable {P:Program} {G:Nat→List IV} {R:Run} {D:Nat→Option FnD}
theorem mem_del{b c:Nat}{x:Blk}:∀ (h:Heap),(c,x)∈h.del b→(c,x)∈h∧c≠b
 |[],e=>by simp[Heap.del] at e
 |(k,y)::h,e=>by
  simp only[Heap.del] at e
  split at e
  ·have:=mem_del h e
   exact ⟨List.mem_cons_of_mem _ this.1,this.2⟩
  ·rename_i hne
   rcases List.mem_cons.1 e with q|q
   ·simp only[Prod.mk.injEq] at q
    obtain ⟨rfl,rfl⟩:=q
    exact ⟨List.mem_cons_self ..,hne⟩
   ·have:=mem_del h q
    exact ⟨List.mem_cons_of_mem _ this.1,this.2⟩
def orR(A B:Run):Run:=fun f args bs=>match A f args bs with
  |some r=>some r
  |none=>B f args bs
theorem orR_ok{A B:Run}(hA:RunOk P G A)(hB:RunOk P G B):RunOk P G (orR A B):=by
 intro f args bs rs h e X ids E0 lent cargs X' E hW hG ha;unfold orR at e;split at e
 ·rename_i r hr
  simp at e;subst e;exact hA f args bs rs h hr X ids E0 lent cargs hW hG ha
 ·exact hB f args bs rs h e X ids E0 lent cargs hW hG ha
theorem lim_ok{F:Nat→Option Fn}{Xr:Run}(hF:∀ f fn,F f=some fn→okFn P f fn=true)(hX:RunOk P G Xr):RunOk P G (lim G F Xr):=by
 intro f args bs rs h e;obtain ⟨n,d,e⟩:=lim_ex e;exact run_sound hF hX n d f args bs rs h e
class Up(A B:Run):Prop where
  le:A.le B
instance Up.refl(A:Run):Up A A:=⟨fun _ _ _ _ h=>h⟩
theorem orR_left(A B:Run):A.le (orR A B):=fun f args bs r h=>by unfold orR;rw[h]
theorem orR_right{A B:Run}{f:Nat}(hf:∀ args bs,A f args bs=none){args:List A1}{bs:List Blk}{r:List A1×Heap}(h:B f args bs=some r):orR A B f args bs=some r:=by unfold orR;rw[hf];exact h
theorem lim_up{F:Nat→Option Fn}{A B:Run}[h:Up A B]{f:Nat}(hf:F f=none){args:List A1}{bs:List Blk}{r:List A1×Heap}(e:A f args bs=some r):lim G F B f args bs=some r :=
 lim_x hf args bs (h.le _ _ _ _ e)
end
/- Stepping rules. -/
section
variable {nt:Nat} {σ:Sl} {hp:Heap} {ct:Nat} {its:Its} {G:Nat→List IV} {R:Run}
theorem put_mk(d:Option Nat)(v:AV):(mkS nt σ hp ct).put d v=mkS nt (updO σ d v) hp ct:=with_mk (hp:=hp) (ct:=ct) (nt:=nt) (σ:=σ) d (v,hp,ct)
end
end Go.Abs
namespace Go.Abs
section
variable {G:Nat→List IV} {F:Nat→Option Fn} {A B:Run}
theorem lim_xU [h:Up A B]{f:Nat}(hf:F f=none)(args:List A1)(bs:List Blk){r:List A1×Heap}(e:A f args bs=some r):lim G F B f args bs=some r:=lim_up hf e
theorem run_monoX(hX:A.le B){n:Nat}:∀ d,(run G F A n d).le (run G F B n d)
 |0=>fun f args bs r h=>by simp[run] at h
 |d+1=>fun f args bs r h=>by
  simp only[run] at h ⊢
  split at h
  ·exact hX _ _ _ _ h
  ·rename_i fn hf
   split at h
   ·simp at h
   ·rename_i ex s1 hne h1
    rw[exec_mono (run_monoX hX d) (Nat.le_refl n) h1]
    cases ex with
    |exit i=>exact absurd rfl (hne i)
    |normal=>exact h
    |ret=>exact h
   ·simp at h
theorem lim_le(hX:A.le B):(lim G F A).le (lim G F B):=fun f args bs r h=>by
 obtain ⟨n,d,h⟩:=lim_ex h
 exact lim_of (run_monoX hX d _ _ _ _ h)
theorem pc_le{R R':Run}(h:R.le R'){f:Nat}{as:List A1}{fr:Bool}{P:List A1→Prop}(k:pc R f as fr P):pc R' f as fr P:=fun lent hl=>by
 obtain ⟨vs,h1,h2⟩:=k lent hl
 refine ⟨vs,?_,h2⟩
 unfold pureCall at h1 ⊢
 split at h1
 ·rename_i rs hh e
  rw[h _ _ _ _ e]
  exact h1
 ·simp at h1
theorem pc_trueU [h:Up A B]{f n d:Nat}{as:List A1}{fr:Bool}(e:isTrue1 (run G F A n d f as [])=true):pc (lim G F B) f as fr (fun vs=>vs=[.c (I (.bool true))]):=pc_le (lim_le h.le) (pc_true e)
theorem pc_dem{R:Run}{f:Nat}{as rs:List A1}{P:List A1→Prop}(e:R f as []=some (rs,[]))(hb:∀ lent,traverse (back1 [] [] lent) rs=some rs)(hP:P rs):pc R f as true P:=fun lent _ =>
 ⟨rs,by unfold pureCall;rw[e];exact hb lent,hP⟩
end
def lv(ws:List (List UInt8)):IV:=.lit 0 (ws.map .str) ws.length
theorem rows_str{f:Bool}:∀ {l:List (List UInt8)} {c:List IV},rows Rep.str f c l→c=l.map .str
 |[],c,h=>h
 |x::l,c,h=>by
  obtain ⟨a,b,rfl,h1,h2⟩:=h
  have h1:a=[.str x]:=h1
  rw[rows_str h2,h1]
  rfl
theorem str_rows(f:Bool):∀ l:List (List UInt8),rows Rep.str f (l.map .str) l
 |[]=>rfl
 |x::l=>⟨[.str x],l.map .str,rfl,rfl,str_rows f l⟩
theorem sv_lv(f:Bool)(ws:List (List UInt8)):sv Rep.str f (lv ws) ws:=.inr (.inr ⟨0,_,rfl,str_rows f _,fun _=>rfl⟩)
theorem lv_of{v:IV}{ws:List (List UInt8)}(h:sv Rep.str true v ws)(hne:ws≠[]):v=lv ws:=by
 rcases h with ⟨_,rfl⟩|⟨_,rfl⟩|⟨t,c,rfl,h1,h2⟩
 ·exact absurd rfl hne
 ·exact absurd rfl hne
 ·rw[rows_str h1,h2 rfl]
  rfl
section
variable {κ β:Type} [D:DecidableEq κ] {K:SK κ} {iv:β→IV}
theorem mget_mput{m:List (κ×β)}{k q:κ}{v:β}:mget (mput m k v) q=if k=q then some v else mget m q:=by
 induction m with
 |nil=>simp only[mput,mget]
 |cons p m ih =>
  obtain ⟨a,b⟩:=p;simp only[mput];by_cases h:a=k
  ·subst h
   simp only[if_true,mget];split<;>rfl
  ·simp only[h,if_false,mget,ih]
   by_cases h2:a=q
   ·subst h2
    have:¬ k=a:=fun e=>h e.symm;simp[this]
   ·simp only[h2,if_false]
theorem mput_fst{m:List (κ×β)}{k:κ}{v:β}(h:(m.map Prod.fst).Nodup):((mput m k v).map Prod.fst).Nodup:=by
 have key:∀ (m:List (κ×β)) (a:κ),a∈(mput m k v).map Prod.fst→a∈m.map Prod.fst∨a=k:=by
  intro m;induction m with
  |nil=>intro a h;simp[mput] at h;exact .inr h
  |cons p m ih =>
   intro a h;obtain ⟨x,y⟩:=p;simp only[mput] at h;split at h
   ·rename_i e
    simp only[List.map_cons,List.mem_cons] at h ⊢;rcases h with h|h
    ·exact .inr h
    ·exact .inl (.inr h)
   ·simp only[List.map_cons,List.mem_cons] at h ⊢
    rcases h with h|h
    ·exact .inl (.inl h)
    ·rcases ih a h with h|h
     ·exact .inl (.inr h)
     ·exact .inr h
 induction m with
 |nil=>simp[mput]
 |cons p m ih =>
  obtain ⟨a,b⟩:=p;simp only[List.map_cons,List.nodup_cons] at h;simp only[mput];split
  ·rename_i e
   subst e;simp only[List.map_cons,List.nodup_cons];exact h
  ·rename_i e
   simp only[List.map_cons,List.nodup_cons];refine ⟨fun q=>?_,ih h.2⟩;rcases key m a q with q|q
   ·exact h.1 q
   ·exact e q
structure mpb(b g:Nat)(es:List Ent)(clk:Nat)(K:SK κ)(iv:β→IV)(hp:Heap)(m:List (κ×β)):Prop where
  get:hp.get b=some (.map g es clk)
  ents:EntsOk K iv es m
  born:∀ e∈es,e.born<clk
  nodup:(es.map (·.born)).Nodup
  keys:(m.map Prod.fst).Nodup
def mpB(b:Nat)(K:SK κ)(iv:β→IV)(hp:Heap)(a:AC)(m:List (κ×β)):Prop:=∃ g es clk,a=.r (.map b g)∧mpb b g es clk K iv hp m
omit D in
theorem mpb.fr{b g clk:Nat}{es:List Ent}{hp hp':Heap}{m:List (κ×β)}{P:List Nat}(h:mpb b g es clk K iv hp m)(k:Fr P hp hp')(hb:P.contains b=false):mpb b g es clk K iv hp' m :=
 ⟨(k b (by simpa using hb)).trans h.get,h.ents,h.born,h.nodup,h.keys⟩
omit D in
theorem mpB.fr{b:Nat}{hp hp':Heap}{a:AC}{m:List (κ×β)}{P:List Nat}(h:mpB b K iv hp a m)(k:Fr P hp hp')(hb:P.contains b=false):mpB b K iv hp' a m:=by
 obtain ⟨g,es,clk,h1,h2⟩:=h;exact ⟨g,es,clk,h1,h2.fr k hb⟩
omit D in
theorem mpB.mp{b:Nat}{hp:Heap}{a:AC}{m:List (κ×β)}(h:mpB b K iv hp a m):mp [b] K iv hp a m:=by
 obtain ⟨g,es,clk,h1,h2⟩:=h;exact ⟨b,g,es,clk,by simp,h1,h2.get,h2.ents⟩
theorem setEnt_born(k:A1)(v:A1):∀ es:List Ent,(setEnt k v es).map (·.born)=es.map (·.born)
 |[]=>rfl
 |e::es=>by
  simp only[setEnt]
  split<;>simp[setEnt_born k v es]
end
section
variable {κ β:Type} [D:DecidableEq κ] {K:SK κ} {iv:β→IV} {nt:Nat} {σ:Sl} {hp:Heap} {ct d:Nat} {G:Nat→List IV} {R:Run} {Q:Sl→Heap→Nat→Prop} {l:List Ins} {a:AC} {m:List (κ×β)} {x ko vo:Opd}
omit D in
theorem k_mkmapB(K:SK κ)(iv:β→IV)(nx:∀ a hp' ct',mpB d K iv hp' a ([]:List (κ×β))→Fr [d] hp hp'→wpL G R nt l Q (upd σ d (.v (.c a))) hp' ct'):wpL G R nt (.op (some d) none .mkmap::l) Q σ hp ct:=by
 refine k_op (v:=.v (.c (.r (.map d ct)))) (hp':=hp.set d (.map ct [] 0)) (ct':=ct+1) ?_ (nx _ _ _ ⟨ct,[],0,rfl,by simp[Heap.get_set],.nil,by simp,by simp,by simp⟩ fun b hb=>?_)
 ·simp only[opK,step,mkS_hp,mkS_ct,Option.getD_some]
 ·simp at hb;rw[Heap.get_set,if_neg hb]
theorem k_mupdB{b:Nat}{key:κ}{val:β}(hx:evσ nt σ x=.v (.c a))(hm:mpB b K iv hp a m)(hk:evσ nt σ ko=.v (K.a1 key))(hv:evσ nt σ vo=V (iv val))
  (nx:∀ hp',mpB b K iv hp' a (mput m key val)→Fr [b] hp hp'→wpL G R nt l Q σ hp' ct):wpL G R nt (.op none none (.mupd K.kt x ko vo)::l) Q σ hp ct:=by
 obtain ⟨g,es,clk,rfl,h3,h4,h5,h6,h7⟩:=hm;have hf:∀ y,Fr [b] hp (hp.set b y):=fun y c hc=>by rw[Heap.get_set,if_neg (fun e=>hc (by rw[e];simp))]
 cases hg:mget m key with
 |none =>
  refine k_op (dd:=none) (hp':=hp.set b (.map g (es++[⟨K.a1 key,.c (I (iv val)),clk⟩]) (clk+1))) (ct':=ct) (v:=.und) ?_ (nx _ ⟨g,_,_,rfl,by rw[Heap.get_set,if_pos rfl],?_,?_,?_,mput_fst h7⟩ (hf _))
  ·have e3:ev (mkS nt σ hp ct) vo=V (iv val):=by rw[ev_mk,hv]
   simp only[opK,step,ev_mk,hx,hk,K.plain,mkS_hp,mkS_ct,mapAt_of h3,h4.find,hg,hv,V];rfl
  ·rw[mput_new hg];exact All2.append h4 (.cons ⟨rfl,rfl⟩ .nil)
  ·intro e he
   rcases List.mem_append.1 he with he|he
   ·have:=h5 e he;omega
   ·simp at he;subst he;exact Nat.lt_succ_self _
  ·rw[List.map_append,List.nodup_append]
   refine ⟨h6,by simp,fun p hp q hq=>?_⟩;obtain ⟨e,he,rfl⟩:=List.mem_map.1 hp;simp at hq;subst hq
   have:=h5 e he
   omega
 |some w =>
  refine k_op (dd:=none) (hp':=hp.set b (.map g (setEnt (K.a1 key) (.c (I (iv val))) es) clk)) (ct':=ct) (v:=.und) ?_ (nx _ ⟨g,_,_,rfl,by rw[Heap.get_set,if_pos rfl],h4.set key val (by rw[hg];rfl),?_,by rw[setEnt_born];exact h6,mput_fst h7⟩ (hf _))
  ·simp only[opK,step,ev_mk,hx,hk,K.plain,mkS_hp,mkS_ct,mapAt_of h3,h4.find,hg,hv,V];rfl
  ·intro e he
   have:e.born∈(setEnt (K.a1 key) (.c (I (iv val))) es).map (·.born):=List.mem_map_of_mem he;rw[setEnt_born] at this;obtain ⟨e2,he2,hb⟩:=List.mem_map.1 this
   have:=h5 e2 he2
   omega
end
def unseen(es:List Ent)(seen:List Nat):Nat:=(es.filter fun e=>!seen.contains e.born).length
theorem unseen_lt{es:List Ent}{seen:List Nat}{e:Ent}(he:e∈es)(hn:e.born∉seen):unseen es (seen++[e.born])<unseen es seen:=by
 unfold unseen;have h1:(es.filter fun x=>!(seen++[e.born]).contains x.born)=(es.filter fun x=>!seen.contains x.born).filter fun x=>!(x.born==e.born):=by
  rw[List.filter_filter];congr 1;funext x;simp only[List.contains_eq_mem,List.mem_append,List.mem_singleton,Bool.decide_or,Bool.not_or];by_cases h:x.born=e.born<;>simp[h,Bool.and_comm]
 rw[h1];exact List.length_filter_lt_length_iff_exists.2 ⟨e,by simp[he,hn],by simp⟩
def metP{κ β:Type}(es:List Ent)(m:List (κ×β))(seen:List Nat)(p:κ×β):Prop:=∃ (i:Nat) (e:Ent),es[i]?=some e∧m[i]?=some p∧e.born∈seen
theorem met_nil{κ β:Type}{es:List Ent}{m:List (κ×β)}{p:κ×β}:¬ metP es m [] p:=fun ⟨_,_,_,_,h⟩=>by simp at h
theorem met_all{κ β:Type}{es:List Ent}{m:List (κ×β)}{seen:List Nat}(hl:es.length=m.length)(h:∀ e∈es,e.born∈seen)(p:κ×β):metP es m seen p↔p∈m:=by
 constructor
 ·rintro ⟨i,e,_,h2,_⟩;exact List.mem_of_getElem? h2
 ·intro hp
  obtain ⟨i,hi,rfl⟩:=List.getElem_of_mem hp;have hi2:i<es.length:=by omega
  exact ⟨i,es[i],by simp[hi2],by simp[hi],h _ (List.getElem_mem _)⟩
theorem met_add{κ β:Type}{es:List Ent}{m:List (κ×β)}{seen:List Nat}{j:Nat}{e:Ent}{p0:κ×β}(hn:(es.map (·.born)).Nodup)(he:es[j]?=some e)(hm:m[j]?=some p0)(p:κ×β):metP es m (seen++[e.born]) p↔metP es m seen p∨p=p0:=by
 constructor
 ·rintro ⟨i,e2,h1,h2,h3⟩
  rcases List.mem_append.1 h3 with h3|h3
  ·exact .inl ⟨i,e2,h1,h2,h3⟩
  ·refine .inr ?_
   have hb:e2.born=e.born:=by simpa using h3
   have:i=j:=by
    have hi:=(List.getElem?_eq_some_iff.1 h1);have hj:=(List.getElem?_eq_some_iff.1 he);obtain ⟨i1,i2⟩:=hi;obtain ⟨j1,j2⟩:=hj;rcases Nat.lt_trichotomy i j with q|q|q
    ·have w:=List.pairwise_iff_getElem.1 hn i j (by simpa using i1) (by simpa using j1) q
     simp only[List.getElem_map,i2,j2] at w;exact absurd hb w
    ·exact q
    ·have w:=List.pairwise_iff_getElem.1 hn j i (by simpa using j1) (by simpa using i1) q
     simp only[List.getElem_map,i2,j2] at w;exact absurd hb.symm w
   subst this;rw[hm] at h2;exact (Option.some.inj h2).symm
 ·rintro (⟨i,e2,h1,h2,h3⟩|rfl)
  ·exact ⟨i,e2,h1,h2,List.mem_append_left _ h3⟩
  ·exact ⟨j,e,he,hm,by simp⟩
end Go.Abs
