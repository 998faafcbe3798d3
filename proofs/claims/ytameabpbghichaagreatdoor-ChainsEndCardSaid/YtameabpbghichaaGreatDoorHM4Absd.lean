/-
  The abstract machine beside Go's model: code that ranges over maps and calls functions that see the same memory: what holds behind every order.
-/
import Derived.Test.YtameabpbghichaaGreatDoorHM4Absc
namespace Go.Abs.Sh
open Go.RowKit
inductive SIns where
  |ins (x:Ins)
  |rng (d:Nat) (x:Opd)
  |nx (d:Nat) (x:Opd)
  |ent (d:Nat) (x:Opd)
  |rn (b:Nat) (c:Option Nat)   -- only told: the block of place 'b',if there is one,is told of place 'c' (none: a new place) from here on
  |new (d:Nat) (k:K)   -- an operation whose block gets a place that no block has
  |inl (d:Option Nat) (f:Nat) (args:List Opd)   -- a call of a function that sees the same memory
def renR(b g c g':Nat):AR→AR
  |.ptr b2 g2 o=>if b2=b∧g2=g then .ptr c g' o else .ptr b2 g2 o
  |.map b2 g2=>if b2=b∧g2=g then .map c g' else .map b2 g2
  |.sl b2 g2 o sz n=>if b2=b∧g2=g then .sl c g' o sz n else .sl b2 g2 o sz n
  |r=>r
def renC(b g c g':Nat):AC→AC
  |.r a=>.r (renR b g c g' a)
  |.clo f l=>.clo f (l.map (renR b g c g'))
def ren1(b g c g':Nat):A1→A1
  |.c a=>.c (renC b g c g' a)
  |.agg l=>.agg (l.map (renC b g c g'))
def renV(b g c g':Nat):AV→AV
  |.v a=>.v (ren1 b g c g' a)
  |.tup l=>.tup (l.map (ren1 b g c g'))
  |v=>v
def renB(b g c g':Nat):Blk→Blk
  |.cells g2 cs=>.cells g2 (cs.map (renC b g c g'))
  |.map g2 es k=>.map g2 (es.map fun e=>{key:=ren1 b g c g' e.key,val:=ren1 b g c g' e.val,born:=e.born}) k
  |.iter g2 l p=>.iter g2 l p
def renH(b g c g':Nat)(h:Heap):Heap:=h.map fun p=>(p.1,renB b g c g' p.2)
theorem renB_gen(b g c g':Nat)(x:Blk):(renB b g c g' x).gen=x.gen:=by cases x<;>rfl
theorem get_renH(b g c g':Nat)(h:Heap)(q:Nat):(renH b g c g' h).get q=(h.get q).map (renB b g c g'):=by
 induction h with
 |nil=>rfl
 |cons p h ih =>
  simp only[renH,List.map_cons,Heap.get] at ih ⊢;split
  ·rfl
  ·exact ih
def reGen(g:Nat):Blk→Blk
  |.cells _ cs=>.cells g cs
  |.map _ es k=>.map g es k
  |.iter _ l p=>.iter g l p
theorem reGen_gen(g:Nat)(x:Blk):(reGen g x).gen=g:=by cases x<;>rfl
def newB(h:Heap):Nat:=h.foldl (fun a p=>max a p.1) 1000+1
def mvm(s:St)(b c:Nat)(x:Blk):St:={s with tm:=s.tm.map (renV b x.gen c s.ct),hp:=((renH b x.gen c s.ct s.hp).del b).set c (reGen s.ct (renB b x.gen c s.ct x)),ct:=s.ct+1}
abbrev CT:=Nat→List A1→Heap→Nat→(List A1→Heap→Nat→Prop)→Prop
inductive IRS where
  |base (x:IR)
  |reg (l:List SIns)
  |seq (a b:IRS)
  |cond (x:Opd) (a b:IRS)
  |block (id:Nat) (a:IRS)
  |loop (a:IRS)
def isMapT(P:Program)(t:Nat):Bool:=match P.underlying t with
  |some (.map _ _)=>true
  |_=>false
def okSIns(P:Program)(ops:Array Oper)(i:Nat):SIns→Bool
  |.ins x=>okIns P ops i x
  |.rng d x=>match ops[i]? with
    |some o=>o.dst==some d&&o.guard.isNone&&(match o.op with|.range t y=>okOpd y x&&isMapT P t|_=>false)
    |none=>false
  |.nx d x=>match ops[i]? with
    |some o=>o.dst==some d&&o.guard.isNone&&(match o.op with|.next y false=>okOpd y x|_=>false)
    |none=>false
  |.ent d x=>match ops[i]? with
    |some o=>o.dst==some d&&o.guard.isNone&&(match o.op with|.entry y=>okOpd y x|_=>false)
    |none=>false
  |.rn ..=>true
  |.new d k=>match ops[i]? with
    |some o=>o.dst==some d&&o.guard.isNone&&okK P o k
    |none=>false
  |.inl d f l=>match ops[i]? with
    |some o=>o.dst==d&&o.guard.isNone&&(match o.op with|.call {callee:=.value (.func f'),args:=args,argTypes:=_}=>f==f'&&okOpds args.toList l|_=>false)
    |none=>false
def SIns.isOp:SIns→Bool
  |.ins x=>x.isOp
  |.rn ..=>false
  |_=>true
def okSL(P:Program)(ops:Array Oper):List SIns→Nat→Bool
  |[],i=>i==ops.size
  |x::l,i=>if x.isOp then okSIns P ops i x&&okSL P ops l (i+1) else okSL P ops l i
def okIRS(P:Program):IRS→Code→Bool
  |.base x,c=>okIR P x c
  |.reg l,.region _ ops draw=>!draw&&okSL P ops l 0
  |.seq x y,.seq c d=>okIRS P x c&&okIRS P y d
  |.cond x p q,.cond y c d=>okOpd y x&&okIRS P p c&&okIRS P q d
  |.block i x,.block j c=>i==j&&okIRS P x c
  |.loop x,.loop c=>okIRS P x c
  |_,_=>false
section
variable (G:Nat→List IV) (R:Run) (C:CT)
def wpSL:List SIns→St→Its→(St→Its→Prop)→Prop
  |[],s,its,Q=>Q s its
  |.ins x::l,s,its,Q=>∃ s',insI G R s x=some s'∧wpSL l s' its Q
  |.rng d x::l,s,its,Q=>∃ b g es k,ev s x=.v (.c (.r (.map b g)))∧s.hp.mapAt b g=some (es,k)∧∀ c,itAt its c=none→wpSL l (s.put (some d) (V (.gp c 0))) ((c,⟨b,g,k,[],k⟩)::its) Q
  |.nx d x::l,s,its,Q=>∃ c t es k,ev s x=V (.gp c 0)∧itAt its c=some t∧s.hp.mapAt t.b t.g=some (es,k)∧(∀ e∈es,e.born<t.since)∧t.since≤t.stepped ∧
      ((∀ e∈es,e.born∈t.seen)→wpSL l (s.put (some d) (.tup [.c (I (.bool false))])) its Q) ∧
      ∀ e∈es,e.born∉t.seen→wpSL l (s.put (some d) (.tup [.c (I (.bool true)),e.key,e.val])) (itSet its c ⟨t.b,t.g,t.since,t.seen++[e.born],k⟩) Q
  |.ent d x::l,s,its,Q=>∃ c t es k e sn,ev s x=V (.gp c 0)∧itAt its c=some t∧s.hp.mapAt t.b t.g=some (es,k)∧t.stepped=k∧e∈es∧t.seen=sn++[e.born]∧(es.map (·.born)).Nodup ∧
      wpSL l (s.put (some d) (.tup [e.key,e.val])) its Q
  |.rn b c::l,s,its,Q=>match s.hp.get b with
    |some x=>b≠c.getD (newB s.hp)∧b<PB∧wpSL l (mvm s b (c.getD (newB s.hp)) x) its Q
    |none=>wpSL l s its Q
  |.new d k::l,s,its,Q=>∃ v h c,opK G R s (newB s.hp) k=some (v,h,c)∧wpSL l (s.with (some d) (v,h,c)) its Q
  |.inl d f args::l,s,its,Q=>∃ as,evals s args=some as∧C f as s.hp s.ct fun rs hp ct=>wpSL l (s.with d (resV rs,hp,ct)) its Q
def inRound(L:St→Its→Prop)(Q:Ex→St→Its→Prop):Ex→St→Its→Prop
  |.normal,s,its=>L s its
  |e,s,its=>Q e s its
def loopW(f:St→Its→(Ex→St→Its→Prop)→Prop)(Q:Ex→St→Its→Prop)(s:St)(its:Its):Prop :=
  ∀ L:St→Its→Prop,(∀ s its,f s its (inRound L Q)→L s its)→L s its
def inBlkS(id:Nat)(Q:Ex→St→Its→Prop):Ex→St→Its→Prop
  |.exit i,s,its=>Q (if i=id then .normal else .exit i) s its
  |e,s,its=>Q e s its
def wpS:IRS→St→Its→(Ex→St→Its→Prop)→Prop
  |.base x,s,its,Q=>∃ n ex s',exec G R n x s=some (ex,s')∧Q ex s' its
  |.reg l,s,its,Q=>wpSL G R C l s its (Q .normal)
  |.seq a b,s,its,Q=>wpS a s its (inRound (fun s its=>wpS b s its Q) Q)
  |.cond x a b,s,its,Q=>∃ p,(ev s x).bool=some p∧(p=true→wpS a s its Q)∧(p=false→wpS b s its Q)
  |.block id a,s,its,Q=>wpS a s its (inBlkS id Q)
  |.loop a,s,its,Q=>loopW (fun s its Q=>wpS a s its Q) Q s its
structure CGood:Prop where
  mono:∀ {f as hp ct} {Q Q':List A1→Heap→Nat→Prop},(∀ rs hp ct,Q rs hp ct→Q' rs hp ct)→C f as hp ct Q→C f as hp ct Q'
  both:∀ {f as hp ct} {Q Q':List A1→Heap→Nat→Prop},C f as hp ct Q→C f as hp ct Q'→C f as hp ct fun rs hp ct=>Q rs hp ct∧Q' rs hp ct
  some:∀ {f as hp ct} {Q:List A1→Heap→Nat→Prop},C f as hp ct Q→∃ rs hp ct,Q rs hp ct
variable {G R C} (hC:CGood C)
include hC
omit hC in
theorem inRound_mono{L L':St→Its→Prop}{Q Q':Ex→St→Its→Prop}(hL:∀ s its,L s its→L' s its)(hQ:∀ e s its,Q e s its→Q' e s its):∀ e s its,inRound L Q e s its→inRound L' Q' e s its:=fun e s its h=>by
 cases e
 ·exact hL s its h
 all_goals exact hQ _ s its h
omit hC in
theorem inBlkS_mono{id:Nat}{Q Q':Ex→St→Its→Prop}(hQ:∀ e s its,Q e s its→Q' e s its):∀ e s its,inBlkS id Q e s its→inBlkS id Q' e s its:=fun e s its h=>by
 cases e
 all_goals exact hQ _ s its h
theorem wpSL_mono{Q Q':St→Its→Prop}(hQ:∀ s its,Q s its→Q' s its):∀ (l:List SIns) (s:St) (its:Its),wpSL G R C l s its Q→wpSL G R C l s its Q'
 |[],s,its,h=>hQ s its h
 |.ins x::l,s,its,h=>by
  obtain ⟨s',h1,h2⟩:=h
  exact ⟨s',h1,wpSL_mono hQ l s' its h2⟩
 |.rng d x::l,s,its,h=>by
  obtain ⟨b,g,es,k,h1,h2,h3⟩:=h
  exact ⟨b,g,es,k,h1,h2,fun c hc=>wpSL_mono hQ l _ _ (h3 c hc)⟩
 |.nx d x::l,s,its,h=>by
  obtain ⟨c,t,es,k,h1,h2,h3,h4,h5,h6,h7⟩:=h
  exact ⟨c,t,es,k,h1,h2,h3,h4,h5,fun q=>wpSL_mono hQ l _ _ (h6 q),fun e he q=>wpSL_mono hQ l _ _ (h7 e he q)⟩
 |.ent d x::l,s,its,h=>by
  obtain ⟨c,t,es,k,e,sn,h1,h2,h3,h4,h5,h6,h7,h8⟩:=h
  exact ⟨c,t,es,k,e,sn,h1,h2,h3,h4,h5,h6,h7,wpSL_mono hQ l _ _ h8⟩
 |.rn b c::l,s,its,h=>by
  cases hx:s.hp.get b with
  |some x =>
   simp only[wpSL,hx] at h ⊢
   exact ⟨h.1,h.2.1,wpSL_mono hQ l _ _ h.2.2⟩
  |none =>
   simp only[wpSL,hx] at h ⊢
   exact wpSL_mono hQ l _ _ h
 |.new d k::l,s,its,h=>by
  obtain ⟨v,hp,c,h1,h2⟩:=h
  exact ⟨v,hp,c,h1,wpSL_mono hQ l _ _ h2⟩
 |.inl d f args::l,s,its,h=>by
  obtain ⟨as,h1,h2⟩:=h
  exact ⟨as,h1,hC.mono (fun rs hp ct q=>wpSL_mono hQ l _ _ q) h2⟩
omit hC in
theorem loopW_mono{f:St→Its→(Ex→St→Its→Prop)→Prop}(hf:∀ s its Q Q',(∀ e s its,Q e s its→Q' e s its)→f s its Q→f s its Q'){Q Q':Ex→St→Its→Prop}(hQ:∀ e s its,Q e s its→Q' e s its){s:St}{its:Its}(h:loopW f Q s its):loopW f Q' s its :=
 fun L hL=>h L fun s its q=>hL s its (hf s its _ _ (inRound_mono (fun _ _ r=>r) hQ) q)
theorem wpS_mono:∀ (x:IRS) (s:St) (its:Its) (Q Q':Ex→St→Its→Prop),(∀ e s its,Q e s its→Q' e s its)→wpS G R C x s its Q→wpS G R C x s its Q'
 |.base x,s,its,Q,Q',hQ,h=>by
  obtain ⟨n,ex,s',h1,h2⟩:=h
  exact ⟨n,ex,s',h1,hQ _ _ _ h2⟩
 |.reg l,s,its,Q,Q',hQ,h=>wpSL_mono hC (hQ .normal) l s its h
 |.seq a b,s,its,Q,Q',hQ,h=>wpS_mono a s its _ _ (inRound_mono (fun s its q=>wpS_mono b s its _ _ hQ q) hQ) h
 |.cond x a b,s,its,Q,Q',hQ,h=>by
  obtain ⟨p,h1,h2,h3⟩:=h
  exact ⟨p,h1,fun q=>wpS_mono a s its _ _ hQ (h2 q),fun q=>wpS_mono b s its _ _ hQ (h3 q)⟩
 |.block id a,s,its,Q,Q',hQ,h=>wpS_mono a s its _ _ (inBlkS_mono hQ) h
 |.loop a,s,its,Q,Q',hQ,h=>loopW_mono (fun s its Q Q' q r=>wpS_mono a s its Q Q' q r) hQ h
omit hC in
theorem loopW_one{f:St→Its→(Ex→St→Its→Prop)→Prop}(hf:∀ s its Q Q',(∀ e s its,Q e s its→Q' e s its)→f s its Q→f s its Q'){Q:Ex→St→Its→Prop}{s:St}{its:Its}(h:f s its (inRound (loopW f Q) Q)):loopW f Q s its :=
 fun L hL=>hL s its (hf s its _ _ (inRound_mono (fun _ _ r=>r L hL) fun _ _ _ r=>r) h)
omit hC in
theorem loopW_open{f:St→Its→(Ex→St→Its→Prop)→Prop}(hf:∀ s its Q Q',(∀ e s its,Q e s its→Q' e s its)→f s its Q→f s its Q'){Q:Ex→St→Its→Prop}{s:St}{its:Its}(h:loopW f Q s its):f s its (inRound (loopW f Q) Q) :=
 h (fun s its=>f s its (inRound (loopW f Q) Q)) fun s its q=>hf s its _ _ (inRound_mono (fun _ _ r=>loopW_one hf r) fun _ _ _ r=>r) q
omit hC in
theorem it_free:∀ its:Its,∃ n,∀ c,n≤c→itAt its c=none
 |[]=>⟨0,fun _ _=>rfl⟩
 |(c,t)::l=>by
  obtain ⟨n,h⟩:=it_free l
  refine ⟨max n (c+1),fun k hk=>?_⟩
  simp only[itAt]
  rw[if_neg (by omega),h k (by omega)]
omit hC in
theorem gp_inj{c c':Nat}(h:V (.gp c 0)=V (.gp c' 0)):c=c':=by
 have:(IV.gp c 0)=.gp c' 0:=by simpa[V] using h
 cases this;rfl
theorem wpSL_both{Q Q':St→Its→Prop}:∀ (l:List SIns) (s:St) (its:Its),wpSL G R C l s its Q→wpSL G R C l s its Q'→wpSL G R C l s its fun s its=>Q s its∧Q' s its
 |[],s,its,h,h'=>⟨h,h'⟩
 |.ins x::l,s,its,h,h'=>by
  obtain ⟨s',h1,h2⟩:=h
  obtain ⟨s2,h3,h4⟩:=h'
  rw[h1] at h3
  obtain rfl:=Option.some.inj h3
  exact ⟨s',h1,wpSL_both l s' its h2 h4⟩
 |.rng d x::l,s,its,h,h'=>by
  obtain ⟨b,g,es,k,h1,h2,h3⟩:=h
  obtain ⟨b2,g2,es2,k2,i1,i2,i3⟩:=h'
  rw[h1] at i1
  simp only[AV.v.injEq,A1.c.injEq,AC.r.injEq,AR.map.injEq] at i1
  obtain ⟨rfl,rfl⟩:=i1
  rw[h2] at i2
  simp only[Option.some.injEq,Prod.mk.injEq] at i2
  obtain ⟨rfl,rfl⟩:=i2
  exact ⟨b,g,es,k,h1,h2,fun c hc=>wpSL_both l _ _ (h3 c hc) (i3 c hc)⟩
 |.nx d x::l,s,its,h,h'=>by
  obtain ⟨c,t,es,k,h1,h2,h3,h4,h5,h6,h7⟩:=h
  obtain ⟨c2,t2,es2,k2,i1,i2,i3,i4,i5,i6,i7⟩:=h'
  rw[h1] at i1
  obtain rfl:=gp_inj i1
  rw[h2] at i2
  obtain rfl:=Option.some.inj i2
  rw[h3] at i3
  simp only[Option.some.injEq,Prod.mk.injEq] at i3
  obtain ⟨rfl,rfl⟩:=i3
  exact ⟨c,t,es,k,h1,h2,h3,h4,h5,fun q=>wpSL_both l _ _ (h6 q) (i6 q),fun e he q=>wpSL_both l _ _ (h7 e he q) (i7 e he q)⟩
 |.ent d x::l,s,its,h,h'=>by
  obtain ⟨c,t,es,k,e,sn,h1,h2,h3,h4,h5,h6,h7,h8⟩:=h
  obtain ⟨c2,t2,es2,k2,e2,sn2,i1,i2,i3,i4,i5,i6,i7,i8⟩:=h'
  rw[h1] at i1
  obtain rfl:=gp_inj i1
  rw[h2] at i2
  obtain rfl:=Option.some.inj i2
  rw[h3] at i3
  simp only[Option.some.injEq,Prod.mk.injEq] at i3
  obtain ⟨rfl,rfl⟩:=i3
  have hb:e.born=e2.born:=by
   rw[h6] at i6
   have:=congrArg List.getLast? i6
   simpa using this
  have he:e=e2:=by
   obtain ⟨i,hi,rfl⟩:=List.getElem_of_mem h5
   obtain ⟨j,hj,rfl⟩:=List.getElem_of_mem i5
   have:i=j:=by
    rcases Nat.lt_trichotomy i j with q|q|q
    ·have w:=List.pairwise_iff_getElem.1 h7 i j (by simpa using hi) (by simpa using hj) q
     simp only[List.getElem_map] at w
     exact absurd hb w
    ·exact q
    ·have w:=List.pairwise_iff_getElem.1 h7 j i (by simpa using hj) (by simpa using hi) q
     simp only[List.getElem_map] at w
     exact absurd hb.symm w
   subst this
   rfl
  subst he
  exact ⟨c,t,es,k,e,sn,h1,h2,h3,h4,h5,h6,h7,wpSL_both l _ _ h8 i8⟩
 |.rn b c::l,s,its,h,h'=>by
  cases hx:s.hp.get b with
  |some x =>
   simp only[wpSL,hx] at h h' ⊢
   exact ⟨h.1,h.2.1,wpSL_both l _ _ h.2.2 h'.2.2⟩
  |none =>
   simp only[wpSL,hx] at h h' ⊢
   exact wpSL_both l _ _ h h'
 |.new d k::l,s,its,h,h'=>by
  obtain ⟨v,hp,c,h1,h2⟩:=h
  obtain ⟨v2,hp2,c2,i1,i2⟩:=h'
  rw[h1] at i1
  simp only[Option.some.injEq,Prod.mk.injEq] at i1
  obtain ⟨rfl,rfl,rfl⟩:=i1
  exact ⟨v,hp,c,h1,wpSL_both l _ _ h2 i2⟩
 |.inl d f args::l,s,its,h,h'=>by
  obtain ⟨as,h1,h2⟩:=h
  obtain ⟨as2,i1,i2⟩:=h'
  rw[h1] at i1
  obtain rfl:=Option.some.inj i1
  exact ⟨as,h1,hC.mono (fun rs hp ct q=>wpSL_both l _ _ q.1 q.2) (hC.both h2 i2)⟩
theorem wpSL_some{Q:St→Its→Prop}:∀ (l:List SIns) (s:St) (its:Its),wpSL G R C l s its Q→∃ s its,Q s its
 |[],s,its,h=>⟨s,its,h⟩
 |.ins x::l,s,its,h=>by
  obtain ⟨s',h1,h2⟩:=h
  exact wpSL_some l s' its h2
 |.rng d x::l,s,its,h=>by
  obtain ⟨b,g,es,k,h1,h2,h3⟩:=h
  obtain ⟨n,hn⟩:=it_free its
  exact wpSL_some l _ _ (h3 n (hn n (Nat.le_refl _)))
 |.nx d x::l,s,its,h=>by
  obtain ⟨c,t,es,k,h1,h2,h3,h4,h5,h6,h7⟩:=h
  by_cases q:∀ e∈es,e.born∈t.seen
  ·exact wpSL_some l _ _ (h6 q)
  ·simp only[Classical.not_forall] at q
   obtain ⟨e,he,q⟩:=q
   exact wpSL_some l _ _ (h7 e he q)
 |.ent d x::l,s,its,h=>by
  obtain ⟨c,t,es,k,e,sn,h1,h2,h3,h4,h5,h6,h7,h8⟩:=h
  exact wpSL_some l _ _ h8
 |.rn b c::l,s,its,h=>by
  simp only[wpSL] at h
  split at h
  ·exact wpSL_some l _ _ h.2.2
  ·exact wpSL_some l _ _ h
 |.new d k::l,s,its,h=>by
  obtain ⟨v,hp,c,h1,h2⟩:=h
  exact wpSL_some l _ _ h2
 |.inl d f args::l,s,its,h=>by
  obtain ⟨as,h1,h2⟩:=h
  obtain ⟨rs,hp,ct,h3⟩:=hC.some h2
  exact wpSL_some l _ _ h3
theorem wpS_both:∀ (x:IRS) (s:St) (its:Its) (Q Q':Ex→St→Its→Prop),wpS G R C x s its Q→wpS G R C x s its Q'→wpS G R C x s its fun e s its=>Q e s its∧Q' e s its
 |.base x,s,its,Q,Q',h,h'=>by
  obtain ⟨n,ex,s',h1,h2⟩:=h
  obtain ⟨n2,ex2,s2,i1,i2⟩:=h'
  have e1:=exec_mono (R:=R) (R':=R) (fun _ _ _ _ h=>h) (Nat.le_max_left n n2) h1
  have e2:=exec_mono (R:=R) (R':=R) (fun _ _ _ _ h=>h) (Nat.le_max_right n n2) i1
  rw[e1] at e2
  simp only[Option.some.injEq,Prod.mk.injEq] at e2
  obtain ⟨rfl,rfl⟩:=e2
  exact ⟨n,ex,s',h1,h2,i2⟩
 |.reg l,s,its,Q,Q',h,h'=>wpSL_both hC l s its h h'
 |.seq a b,s,its,Q,Q',h,h'=>by
  refine wpS_mono hC a s its _ _ (fun e s its q=>?_) (wpS_both a s its _ _ h h')
  obtain ⟨q1,q2⟩:=q
  cases e
  ·exact wpS_both b s its _ _ q1 q2
  all_goals exact ⟨q1,q2⟩
 |.cond x a b,s,its,Q,Q',h,h'=>by
  obtain ⟨p,h1,h2,h3⟩:=h
  obtain ⟨p2,i1,i2,i3⟩:=h'
  rw[h1] at i1
  obtain rfl:=Option.some.inj i1
  exact ⟨p,h1,fun q=>wpS_both a s its _ _ (h2 q) (i2 q),fun q=>wpS_both b s its _ _ (h3 q) (i3 q)⟩
 |.block id a,s,its,Q,Q',h,h'=>by
  refine wpS_mono hC a s its _ _ (fun e s its q=>?_) (wpS_both a s its _ _ h h')
  obtain ⟨q1,q2⟩:=q
  cases e
  all_goals exact ⟨q1,q2⟩
 |.loop a,s,its,Q,Q',h,h'=>by
  have hm:∀ s its Q Q',(∀ e s its,Q e s its→Q' e s its)→wpS G R C a s its Q→wpS G R C a s its Q':=fun s its Q Q' q r=>wpS_mono hC a s its Q Q' q r
  refine (h:loopW _ _ _ _) (fun s its=>loopW (fun s its Q=>wpS G R C a s its Q) Q' s its→loopW (fun s its Q=>wpS G R C a s its Q) (fun e s its=>Q e s its∧Q' e s its) s its) (fun s its q q'=>?_) h'
  refine loopW_one hm ?_
  refine wpS_mono hC a s its _ _ (fun e s its r=>?_) (wpS_both a s its _ _ q (loopW_open hm q'))
  obtain ⟨r1,r2⟩:=r
  cases e
  ·exact r1 r2
  all_goals exact ⟨r1,r2⟩
theorem wpS_some:∀ (x:IRS) (s:St) (its:Its) (Q:Ex→St→Its→Prop),wpS G R C x s its Q→∃ e s its,Q e s its
 |.base x,s,its,Q,h=>by
  obtain ⟨n,ex,s',h1,h2⟩:=h
  exact ⟨ex,s',its,h2⟩
 |.reg l,s,its,Q,h=>by
  obtain ⟨s,its,h⟩:=wpSL_some hC l s its h
  exact ⟨.normal,s,its,h⟩
 |.seq a b,s,its,Q,h=>by
  obtain ⟨e,s,its,h⟩:=wpS_some a s its _ h
  cases e
  ·exact wpS_some b s its Q h
  all_goals exact ⟨_,s,its,h⟩
 |.cond x a b,s,its,Q,h=>by
  obtain ⟨p,h1,h2,h3⟩:=h
  cases p
  ·exact wpS_some b s its Q (h3 rfl)
  ·exact wpS_some a s its Q (h2 rfl)
 |.block id a,s,its,Q,h=>by
  obtain ⟨e,s,its,h⟩:=wpS_some a s its _ h
  cases e
  all_goals exact ⟨_,s,its,h⟩
 |.loop a,s,its,Q,h=>by
  refine (h:loopW _ _ _ _) (fun _ _=>∃ e s its,Q e s its) fun s its q=>?_
  obtain ⟨e,s,its,q⟩:=wpS_some a s its _ q
  cases e
  ·exact q
  all_goals exact ⟨_,s,its,q⟩
end
def Hor(X:Cx)(M:Nat→Nat)(its:Its):Nat→Option Obj:=fun c=>match itAt its c with
  |some t=>some (.mapIter (some (M c)) t.since t.seen.toArray t.stepped)
  |none=>X.H c
theorem Hor_some{X:Cx}{M:Nat→Nat}{its:Its}{c:Nat}{t:MIt}(h:itAt its c=some t):Hor X M its c=some (.mapIter (some (M c)) t.since t.seen.toArray t.stepped):=by unfold Hor;rw[h]
theorem Hor_none{X:Cx}{M:Nat→Nat}{its:Its}{c:Nat}(h:itAt its c=none):Hor X M its c=X.H c:=by unfold Hor;rw[h]
structure RelS(X:Cx)(E0 E:Env)(M:Nat→Nat)(s:St)(its:Its)(a:Act):Prop where
  rel:Rel (X.hide (Hor X M its)) E s a
  base:Ext X E0 E
  size:E0.w.heap.size≤E.w.heap.size
  low:∀ c t,itAt its c=some t→E0.w.heap.size≤c
  map:∀ c t,itAt its c=some t→t.g<E.ct∧(E.h.cur t.b=some t.g→(E.m t.b).1=M c)
section
variable {P:Program} {X:Cx} {G:Nat→List IV} {R:Run} {C:CT} {E0 E:Env} {M:Nat→Nat} {s:St} {its:Its} {a:Act}
theorem RelS.ext(h:RelS X E0 E M s its a)(hX:∀ c o,X.H c=some o→c<E0.w.heap.size){E':Env}{s':St}{a':Act}(hr:Rel (X.hide (Hor X M its)) E' s' a')(hE:Ext (X.hide (Hor X M its)) E E')(hs:E.w.heap.size≤E'.w.heap.size):RelS X E0 E' M s' its a':=by
 refine ⟨hr,h.base.transH hE h.size (fun c o hc=>?_) (fun c o hc=>?_),Nat.le_trans h.size hs,h.low,fun c t hc=>?_⟩
 ·cases ht:itAt its c with
  |none=>left;rw[Hor_none ht] at hc;exact hc
  |some t=>exact .inr (h.low c t ht)
 ·show Hor X M its c=some o
  rw[Hor_none]
  ·exact hc
  ·cases ht:itAt its c with
   |none=>rfl
   |some t =>
    have h1:=h.low c t ht;have h2:=hX c o hc;omega
 ·obtain ⟨h1,h2⟩:=h.map c t hc
  refine ⟨Nat.lt_of_lt_of_le h1 hE.ct,fun q=>?_⟩;obtain ⟨q1,q2,_⟩:=hE.cur t.b t.g h1 q;rw[q2];exact h2 q1
theorem op_go{ops:Array Oper}{i:Nat}{o:Oper}{d:Nat}{x:Value}{w':World}{next:Act→World→Prop}{Q:Exit→Act→World→Prop}{w:World}(ho:ops[i]?=some o)(hg:o.guard.isNone=true)(hd:o.dst=some d)(hrun:(execOp a.eval o).run P w=.ok (.value x) w')
  (hn:next (a.put (some d) x) w'):wpOp P ops Q i next a w:=by
 unfold wpOp;have hw:Region.wanted o (yielded ops a.tmps)=true:=by
  have:o.guard=none:=by simpa using hg
  simp[Region.wanted,this]
 simp only[ho,hw,if_true];refine .inl ?_;unfold Oper.wp;rw[hrun,Oper.upon_value,hd];exact hn
theorem TR.extH'{X X':Cx}{E E':Env}(hE:ExtH X X' E E')(h:TR X E s a):TR X' E' s a:=⟨h.defers,h.size,fun i v hv=>(h.at_ i v hv).extH hE⟩
structure Ren(E E':Env)(b c:Nat)(x:Blk):Prop where
  live:E.h.get b=some x
  ne:b≠c
  get:∀ q,E'.h.get q=if q=c then some (reGen E.ct (renB b x.gen c E.ct x)) else if q=b then none else (E.h.get q).map (renB b x.gen c E.ct)
  m:∀ q,E'.m q=if q=c then E.m b else E.m q
  w:E'.w=E.w
  ct:E'.ct=E.ct+1
section
variable {E':Env} {b c:Nat} {x:Blk}
theorem Ren.cur(h:Ren E E' b c x)(q g:Nat)(hg:g<E.ct)(hc:E'.h.cur q=some g):q≠b∧E.h.cur q=some g∧E'.m q=E.m q:=by
 unfold Heap.cur at hc ⊢;rw[h.get] at hc;by_cases e:q=c
 ·simp only[e,if_true,Option.map_some,reGen_gen,Option.some.injEq] at hc
  omega
 ·rw[if_neg e] at hc
  split at hc
  ·simp at hc
  ·rename_i e2
   refine ⟨e2,?_,by rw[h.m,if_neg e]⟩;cases hq:E.h.get q with
   |none=>rw[hq] at hc;simp at hc
   |some y =>
    rw[hq] at hc;simpa[renB_gen] using hc
theorem Ren.live_of(h:Ren E E' b c x)(q:Nat)(hl:E'.live q):E.live q:=by
 obtain ⟨b2,h1,h2⟩:=hl;rw[h.get] at h1;rw[h.m] at h2;by_cases e:b2=c
 ·simp only[e,if_true] at h2
  exact ⟨b,by rw[h.live];rfl,h2⟩
 ·rw[if_neg e] at h1 h2
  split at h1
  ·simp at h1
  ·exact ⟨b2,by simpa using h1,h2⟩
theorem Ren.okc(h:Ren E E' b c x){t q:Nat}(ho:okc X E t q):okc X E' t q:=by
 rcases ho with ⟨q1,q2⟩|q1
 ·refine .inl ⟨q1,fun r=>q2 ?_⟩
  rcases r with r|r
  ·exact .inl (h.live_of _ r)
  ·exact .inr r
 ·exact .inr q1
theorem Ren.ext(h:Ren E E' b c x):Ext X E E' :=
 ⟨by rw[h.ct];omega,fun q g hg hc=>by
  obtain ⟨_,h2,h3⟩:=h.cur q g hg hc
  exact ⟨h2,h3,fun cc e fr hcc=>⟨cc,e,fr,by rw[h.w];exact hcc,rfl⟩⟩,fun t q _ ho=>⟨h.okc ho,by rw[h.w]⟩⟩
theorem Ren.curc(h:Ren E E' b c x):E'.m c=E.m b∧E.ct<E'.ct∧E.h.cur b=some x.gen:=by
 refine ⟨by rw[h.m,if_pos rfl],by rw[h.ct];exact Nat.lt_succ_self _,?_⟩;unfold Heap.cur;rw[h.live];rfl
theorem RR.ren(h:Ren E E' b c x){r:AR}{v:Value}(hr:RR X E r v):RR X E' (renR b x.gen c E.ct r) v:=by
 obtain ⟨h1,h2,h3⟩:=h.curc;have keep:∀ r,RR X E r v→RR X E' r v:=fun r hr=>hr.ext h.ext;cases r with
 |i y=>exact keep _ hr
 |ptr b2 g2 o =>
  simp only[renR];split
  ·rename_i e
   obtain ⟨rfl,rfl⟩:=e;obtain ⟨o1,o2,o3⟩:=hr;exact ⟨o1,h2,fun _=>by rw[h1];exact o3 h3⟩
  ·exact keep _ hr
 |map b2 g2 =>
  simp only[renR];split
  ·rename_i e
   obtain ⟨rfl,rfl⟩:=e;obtain ⟨o1,o2,o3⟩:=hr;exact ⟨o1,h2,fun _=>by rw[h1];exact o3 h3⟩
  ·exact keep _ hr
 |sl b2 g2 o sz n =>
  simp only[renR];split
  ·rename_i e
   obtain ⟨rfl,rfl⟩:=e;obtain ⟨o1,o2,o3⟩:=hr;exact ⟨o1,h2,fun _=>by rw[h1,h.w];exact o3 h3⟩
  ·exact keep _ hr
theorem CC.ren(h:Ren E E' b c x){r:AC}{v:Value}(hr:CC X E r v):CC X E' (renC b x.gen c E.ct r) v:=by
 cases r with
 |r a=>exact RR.ren h hr
 |clo f l =>
  obtain ⟨vs,e,hl⟩:=hr;exact ⟨vs,e,hl.map _ fun _ _ q=>RR.ren h q⟩
theorem A1R.ren(h:Ren E E' b c x){r:A1}{v:Value}(hr:A1R X E r v):A1R X E' (ren1 b x.gen c E.ct r) v:=by
 cases r with
 |c a=>exact CC.ren h hr
 |agg l =>
  obtain ⟨vs,e,hl⟩:=hr;exact ⟨vs,e,hl.map _ fun _ _ q=>CC.ren h q⟩
theorem AVR.ren(h:Ren E E' b c x){r:AV}{v:Value}(hr:AVR X E r v):AVR X E' (renV b x.gen c E.ct r) v:=by
 cases r with
 |und=>trivial
 |skp=>exact hr
 |v a=>exact A1R.ren h hr
 |tup l =>
  obtain ⟨vs,e,hl⟩:=hr;exact ⟨vs,e,hl.map _ fun _ _ q=>A1R.ren h q⟩
theorem BR.ren(h:Ren E E' b c x){q q':Nat}{y:Blk}(hq:E'.m q'=E.m q)(hr:BR X E q y):BR X E' q' (renB b x.gen c E.ct y):=by
 cases y with
 |cells g2 cs =>
  obtain ⟨cc,e2,fr,q1,q2,q4,q5⟩:=hr;refine ⟨cc,e2,fr,by rw[hq,h.w];exact q1,?_,?_,fun i z hi hz=>?_⟩
  ·first|exact q2|(rw[List.length_map];exact q2)|(rw[hq];exact q2)
  ·first|exact q4|(rw[hq];exact q4)|(rw[hq,List.length_map];exact q4)
  ·rw[hq] at hi ⊢
   rw[List.getElem?_map] at hz;cases hc:cs[i]? with
   |none=>rw[hc] at hz;simp at hz
   |some u =>
    rw[hc] at hz;obtain ⟨v,v1,v2⟩:=q5 i u hi hc;simp only[Option.map_some,Option.some.injEq] at hz;subst hz;exact ⟨v,v1,CC.ren h v2⟩
 |map g2 es k =>
  obtain ⟨ces,q1,q2⟩:=hr;exact ⟨ces,by rw[hq,h.w];exact q1,q2.map _ fun _ _ r=>⟨A1R.ren h r.key,A1R.ren h r.val,r.born⟩⟩
 |iter g2 l p =>
  obtain ⟨bs,q1,q2⟩:=hr;exact ⟨bs,by rw[hq,h.w];exact q1,q2⟩
theorem BR.regen{E:Env}{q g:Nat}{y:Blk}(hr:BR X E q y):BR X E q (reGen g y):=by cases y<;>exact hr
end
theorem mv_sound(hr:Rel X E s a){b c:Nat}{x:Blk}(hb:s.hp.get b=some x)(hne:b≠c)(hPB:b<PB) :
  ∃ E',E'.w=E.w∧Rel X E' (mvm s b c x) a∧Ext X E E':=by
 obtain ⟨E',hE'⟩:∃ E':Env,E'={E with h:=((renH b x.gen c E.ct E.h).del b).set c (reGen E.ct (renB b x.gen c E.ct x)),m:=fun q=>if q=c then E.m b else E.m q,ct:=E.ct+1}:=⟨_,rfl⟩;have hb0:E.h.get b=some x:=by rw[hr.h];exact hb
 have h:Ren E E' b c x:=by
  refine ⟨hb0,hne,fun q=>?_,fun q=>by rw[hE'],by rw[hE'],by rw[hE']⟩;rw[hE'];simp only[Heap.get_set,Heap.get_del,get_renH]
 have hW:=hr.wr;have hE:Ext X E E':=h.ext;have hwr:WR X E':=by
  refine ⟨fun b2 y hy=>?_,fun b1 b2 h1 h2 he=>?_,by rw[h.w];exact hW.size,fun c hc hA=>by rw[h.w];exact hW.still c hc hA,by rw[h.w];exact hW.os,by rw[h.w];exact hW.tape,by rw[h.w];exact hW.output,hW.f1,hW.a0,fun c o hc=>?_⟩
  ·rw[h.get] at hy
   by_cases e:b2=c
   ·simp only[e,if_true,Option.some.injEq] at hy
    subst hy;obtain ⟨q0,_,q3⟩:=hW.blk b _ hb0;refine ⟨BR.regen (BR.ren h (by rw[h.m,if_pos e]) q0),by rw[h.ct,reGen_gen];exact Nat.lt_succ_self _,?_⟩;rw[h.m,if_pos e];rcases q3 with q3|q3
    ·exact .inl q3
    ·have:=(hW.a0 b _ q3).1;omega
   ·rw[if_neg e] at hy
    split at hy
    ·simp at hy
    ·cases hq:E.h.get b2 with
     |none=>rw[hq] at hy;simp at hy
     |some z =>
      rw[hq] at hy;simp only[Option.map_some,Option.some.injEq] at hy;subst hy;obtain ⟨q1,q2,q3⟩:=hW.blk b2 z hq;exact ⟨BR.ren h (by rw[h.m,if_neg e]) q1,by rw[h.ct,renB_gen];omega,by rw[h.m,if_neg e];exact q3⟩
  ·rw[h.get] at h1 h2
   rw[h.m,h.m] at he;by_cases e1:b1=c
   ·by_cases e2:b2=c
    ·rw[e1,e2]
    ·rw[if_pos e1,if_neg e2] at he
     rw[if_neg e2] at h2;split at h2
     ·simp at h2
     ·rename_i e3
      exact absurd (hW.inj b b2 (by rw[hb0];rfl) (by simpa using h2) he).symm e3
   ·rw[if_neg e1] at h1 he
    split at h1
    ·simp at h1
    ·rename_i e3
     by_cases e2:b2=c
     ·rw[if_pos e2] at he
      exact absurd (hW.inj b1 b (by simpa using h1) (by rw[hb0];rfl) he) e3
     ·rw[if_neg e2] at h2 he
      split at h2
      ·simp at h2
      ·exact hW.inj b1 b2 (by simpa using h1) (by simpa using h2) he
  ·obtain ⟨g1,g2,g3⟩:=hW.hid c o hc
   exact ⟨by rw[h.w];exact g1,g2,fun r=>g3 (h.live_of _ r)⟩
 refine ⟨E',h.w,⟨by rw[hE',hr.h,hr.ct];rfl,by rw[h.ct,hr.ct];rfl,hwr,hr.tr.defers,by simp only[mvm,List.length_map];exact hr.tr.size,fun i v hv=>?_⟩,hE⟩;simp only[mvm,List.getElem?_map] at hv;cases hq:s.tm[i]? with
 |none=>rw[hq] at hv;simp at hv
 |some y =>
  rw[hq] at hv;simp only[Option.map_some,Option.some.injEq] at hv;subst hv
  have:=AVR.ren h (hr.tr.at_ i y hq)
  rw[hr.ct] at this;exact this
def COkS(P:Program)(G:Nat→List IV)(C:CT):Prop:=∀ f as hp ct Q,C f as hp ct Q→∀ (X:Cx) (E:Env) (cargs:List Value),WR X E→GOk X G→E.h=hp→E.ct=ct→All2 (A1R X E) as cargs →
  CallOk P f cargs.toArray E.w fun v w'=>∃ E',E'.w=w'∧WR X E'∧Ext X E E'∧E.w.heap.size≤E'.w.heap.size∧∃ rs vs,All2 (A1R X E') rs vs∧v=retV vs∧Q rs E'.h E'.ct
theorem call_goS{f:Nat}{args:Array Operand}{ts:Array TypeId}{fx:Operand}{caps:Array Value}{cargs:List Value}{o:Oper}{w:World}{post:Value→World→Prop}
  (ho:o.op=.call {callee:=.value fx,args:=args,argTypes:=ts}) (hf:a.eval fx=.func (.func f) #[] caps) (hq:cargs.toArray=args.map a.eval++caps)
  (h:CallOk P f cargs.toArray w post) {next:Act→World→Prop} {Q:Exit→Act→World→Prop} (hn:∀ v w',post v w'→next (a.put o.dst v) w'):o.wp P a w next Q:=by
 have hrun:(execOp a.eval o).run P w=(callFunc f cargs.toArray).run P w:=by
  rw[hq];simp[execOp,ho,resolve,Deferred.ofValue,hf,invoke]
 unfold Oper.wp;rw[hrun];rcases h with ⟨h1,h2⟩|⟨x,w',h1,h2⟩
 ·rw[h1]
  refine h2.mono ?_;rintro e w' ⟨x,rfl,h2⟩;exact hn x w' h2
 ·rw[h1]
  exact hn x w' h2
theorem regS_sound(hR:RunOk P G R)(hCS:COkS P G C)(hG:GOk X G)(hX:∀ c o,X.H c=some o→c<E0.w.heap.size){ops:Array Oper}{Q':Exit→Act→World→Prop}:∀ (l:List SIns) (i:Nat) (s:St) (its:Its) (E:Env) (M:Nat→Nat) (a:Act) (Q:St→Its→Prop),okSL P ops l i=true→i≤ops.size→wpSL G R C l s its Q→RelS X E0 E M s its a →
  (∀ E' M' s' its' a',Q s' its'→RelS X E0 E' M' s' its' a'→Q' .normal a' E'.w)→wpOps P ops Q' ((List.range (ops.size-i)).map (i+·)) a E.w
 |[],i,s,its,E,M,a,Q,hk,hi,hs,hr,hQ=>by
  simp[okSL] at hk
  subst hk
  simp[wpOps]
  exact hQ E M s its a hs hr
 |x::l,i,s,its,E,M,a,Q,hk,hi,hs,hr,hQ=>by
  have hrng:i<ops.size→(List.range (ops.size-i)).map (i+·)=i::(List.range (ops.size-(i+1))).map (i+1+·):=fun hlt=>by
   have:ops.size-i=(ops.size-(i+1))+1:=by omega
   rw[this,List.range_succ_eq_map]
   simp only[List.map_cons,List.map_map,Nat.add_zero]
   congr 1
   apply List.map_congr_left
   intro j _
   simp
   omega
  have lt_of:∀ {o:Oper},ops[i]?=some o→i<ops.size:=fun h=>(Array.getElem?_eq_some_iff.1 h).1
  cases x with
  |ins y =>
   obtain ⟨s1,hs1,hs⟩:=hs
   cases y with
   |op d g k =>
    simp only[okSL,SIns.isOp,Ins.isOp,if_true,Bool.and_eq_true,okSIns] at hk
    have hlt:i<ops.size:=by
     rcases Nat.lt_or_ge i ops.size with h|h
     ·exact h
     ·have:=hk.1
      simp[okIns,Array.getElem?_eq_none h] at this
    rw[hrng hlt,wpOps_cons]
    refine ins_op (X:=X.hide (Hor X M its)) hR hG hr.rel hk.1 hs1 fun E' a' h1 h2 h3 _=>?_
    exact regS_sound hR hCS hG hX l (i+1) s1 its E' M a' Q hk.2 hlt hs (hr.ext hX h1 h2 h3) hQ
   |kill ts bs =>
    obtain ⟨E',h1,h2,h3⟩:=ins_ghost hr.rel rfl hs1
    rw[← h1]
    exact regS_sound hR hCS hG hX l i s1 its E' M a Q (by simpa[okSL,SIns.isOp,Ins.isOp] using hk) hi hs (hr.ext hX h2 h3 (by rw[h1];exact Nat.le_refl _)) hQ
   |frz t =>
    obtain ⟨E',h1,h2,h3⟩:=ins_ghost hr.rel rfl hs1
    rw[← h1]
    exact regS_sound hR hCS hG hX l i s1 its E' M a Q (by simpa[okSL,SIns.isOp,Ins.isOp] using hk) hi hs (hr.ext hX h2 h3 (by rw[h1];exact Nat.le_refl _)) hQ
  |rng d y =>
   simp only[okSL,SIns.isOp,if_true,Bool.and_eq_true,okSIns] at hk
   obtain ⟨hk,hkl⟩:=hk
   split at hk
   ·rename_i o ho
    simp only[Bool.and_eq_true,beq_iff_eq] at hk
    obtain ⟨⟨hd,hg⟩,hk⟩:=hk
    split at hk
    ·rename_i t z hop
     simp only[Bool.and_eq_true] at hk
     obtain ⟨b,g,es,k,e1,e2,hs⟩:=hs
     have rx:=ev_sound hr.rel.tr hk.1
     rw[e1] at rx
     rw[← hr.rel.h] at e2
     obtain ⟨hget,hcur⟩:=Heap.mapAt_eq e2
     obtain ⟨_,hgc,hv⟩:=rx
     have hv:=hv hcur
     obtain ⟨⟨ces,hb,_⟩,_,_⟩:=hr.rel.wr.blk b _ hget
     obtain ⟨kt,et,ht⟩:∃ kt et,P.underlying t=some (.map kt et):=by
      have h0:=hk.2
      unfold isMapT at h0
      split at h0
      ·rename_i kt et h;exact ⟨kt,et,h⟩
      ·simp at h0
     have hrun:(execOp a.eval o).run P E.w=.ok (.value (.pointer (some ⟨E.w.heap.size,0,none⟩))) (E.w.alloc (.mapIter (some (E.m b).1) k #[] k)):=by
      have:=Go.run_range_map (P:=P) E.w t kt et (E.m b).1 ces k ht hb
      simp only[execOp,hop,hv,Sem.run_bind,this,Result.andThen_ok,Sem.run_pure]
     rw[hrng (lt_of ho),wpOps_cons]
     refine op_go ho hg hd hrun ?_
     have hheap:(E.w.alloc (.mapIter (some (E.m b).1) k #[] k)).heap=E.w.heap.push (.mapIter (some (E.m b).1) k #[] k):=rfl
     have hpush:∀ j,j<E.w.heap.size→(E.w.alloc (.mapIter (some (E.m b).1) k #[] k)).heap[j]?=E.w.heap[j]?:=fun j hj=>by rw[hheap,Array.getElem?_push,if_neg (by omega)]
     have hlive:∀ c,E.live c→c<E.w.heap.size:=fun c ⟨b,h1,h2⟩=>by
      obtain ⟨y,hy⟩:=Option.isSome_iff_exists.1 h1
      have:=hr.rel.wr.lt hy
      omega
     have hlow:∀ c t,itAt its c=some t→c<E.w.heap.size:=fun c t hc=>by
      have hq:Hor X M its c=some (.mapIter (some (M c)) t.since t.seen.toArray t.stepped):=Hor_some hc
      exact (Array.getElem?_eq_some_iff.1 (hr.rel.wr.hid c _ hq).1).1
     have hnone:itAt its E.w.heap.size=none:=by
      cases hq:itAt its E.w.heap.size with
      |none=>rfl
      |some t=>have:=hlow _ t hq;omega
     obtain ⟨M',hM'⟩:∃ M':Nat→Nat,M'=fun c=>if c=E.w.heap.size then (E.m b).1 else M c:=⟨_,rfl⟩
     obtain ⟨its',hits⟩:∃ its':Its,its'=(E.w.heap.size,⟨b,g,k,[],k⟩)::its:=⟨_,rfl⟩
     have hH:∀ c,Hor X M' its' c=if c=E.w.heap.size then some (.mapIter (some (E.m b).1) k #[] k) else Hor X M its c:=fun c=>by
      subst hits
      unfold Hor
      simp only[itAt]
      by_cases e:E.w.heap.size=c
      ·subst e;simp[hM']
      ·have:¬ c=E.w.heap.size:=fun q=>e q.symm
       simp only[e,this,if_false,hM']
     have hE:ExtH (X.hide (Hor X M its)) ((X.hide (Hor X M its)).hide (Hor X M' its')) E {E with w:=E.w.alloc (.mapIter (some (E.m b).1) k #[] k)}:=by
      refine ⟨rfl,rfl,rfl,fun c hc=>hpush c (hlive c hc),fun t c hc hok=>⟨?_,hpush c hc⟩⟩
      rcases hok with ⟨p1,p2⟩|p
      ·refine .inl ⟨p1,fun q=>p2 ?_⟩
       rcases q with q|q
       ·exact .inl q
       ·refine .inr ?_
        have:(Hor X M' its' c).isSome=true:=q
        rw[hH,if_neg (show ¬ c=E.w.heap.size by omega)] at this
        exact this
      ·exact .inr p
     have hwr:WR (X.hide (Hor X M' its')) {E with w:=E.w.alloc (.mapIter (some (E.m b).1) k #[] k)}:=hr.rel.wr.extH hE (by simp[hheap]) (fun c hc=>hpush c (Nat.lt_of_lt_of_le hc hr.rel.wr.size)) rfl rfl rfl fun c o' hc=>by
      rw[hH] at hc
      split at hc
      ·rename_i e
       subst e
       simp at hc
       subst hc
       exact ⟨by rw[hheap,Array.getElem?_push];simp,hr.rel.wr.size,fun q=>absurd (hlive _ q) (Nat.lt_irrefl _)⟩
      ·obtain ⟨g1,g2,g3⟩:=hr.rel.wr.hid c o' hc
       exact ⟨by rw[hpush c (Array.getElem?_eq_some_iff.1 g1).1];exact g1,g2,g3⟩
     have htr:TR (X.hide (Hor X M' its')) {E with w:=E.w.alloc (.mapIter (some (E.m b).1) k #[] k)} s a:=TR.extH' hE hr.rel.tr
     have hrel:Rel (X.hide (Hor X M' its')) {E with w:=E.w.alloc (.mapIter (some (E.m b).1) k #[] k)} (s.put (some d) (V (.gp E.w.heap.size 0))) (a.put (some d) (.pointer (some ⟨E.w.heap.size,0,none⟩))) :=
      ⟨hr.rel.h,hr.rel.ct,hwr,htr.put _ (VR.gp _ _)⟩
     have hD:RelS X E0 {E with w:=E.w.alloc (.mapIter (some (E.m b).1) k #[] k)} M' (s.put (some d) (V (.gp E.w.heap.size 0))) its' (a.put (some d) (.pointer (some ⟨E.w.heap.size,0,none⟩))):=by
      refine ⟨hrel,hr.base.stepH rfl rfl rfl (fun c hc=>hpush c (hlive c hc)) (fun c hc=>hpush c (Nat.lt_of_lt_of_le hc hr.size)),Nat.le_trans hr.size (by simp[hheap]),fun c t hc=>?_,fun c t hc=>?_⟩
      ·subst hits
       simp only[itAt] at hc
       split at hc
       ·rename_i e;rw[← e];exact hr.size
       ·exact hr.low c t hc
      ·subst hits
       simp only[itAt] at hc
       split at hc
       ·rename_i e
        subst e
        simp at hc
        subst hc
        exact ⟨hgc,fun _=>by simp[hM']⟩
       ·rename_i e
        have e2:¬ c=E.w.heap.size:=fun q=>e q.symm
        have:=hr.map c t hc
        exact ⟨this.1,fun q=>by rw[hM'];simp only[if_neg e2];exact this.2 q⟩
     have hs':=hs E.w.heap.size hnone
     rw[← hits] at hs'
     exact regS_sound hR hCS hG hX l (i+1) _ _ _ M' _ Q hkl (lt_of ho) hs' hD hQ
    ·simp at hk
   ·simp at hk
  |nx d y =>
   simp only[okSL,SIns.isOp,if_true,Bool.and_eq_true,okSIns] at hk
   obtain ⟨hk,hkl⟩:=hk
   split at hk
   ·rename_i o ho
    simp only[Bool.and_eq_true,beq_iff_eq] at hk
    obtain ⟨⟨hd,hg⟩,hk⟩:=hk
    split at hk
    ·rename_i z hop
     obtain ⟨c,t,es,k,e1,e2,e3,e4,e5,hsN,hsE⟩:=hs
     have rx:=ev_sound hr.rel.tr hk
     rw[e1] at rx
     have hv:a.eval z=.pointer (some ⟨c,0,none⟩):=by
      have rx2:VR _ _ (.gp c 0) (a.eval z):=rx
      cases hq:a.eval z<;>rw[hq] at rx2<;>cases rx2
      rfl
     rw[← hr.rel.h] at e3
     obtain ⟨hget,hcur⟩:=Heap.mapAt_eq e3
     obtain ⟨⟨ces,hb,hall⟩,_,_⟩:=hr.rel.wr.blk t.b _ hget
     have hMc:=(hr.map c t e2).2 hcur
     have hH0:Hor X M its c=some (.mapIter (some (M c)) t.since t.seen.toArray t.stepped):=Hor_some e2
     obtain ⟨hc1,hc2,hc3⟩:=hr.rel.wr.hid c _ hH0
     rw[hMc] at hb
     have hold:∀ x∈ces.toList,x.born<t.since:=fun x hx=>by
      obtain ⟨j,hj,rfl⟩:=List.getElem_of_mem hx
      have hl:=hall.length
      obtain ⟨e,he⟩:∃ e,es[j]?=some e:=⟨es[j]'(by omega),by simp[show j<es.length by omega]⟩
      obtain ⟨v,hv1,hv2⟩:=hall.get j e he
      have:ces.toList[j]?=some ces.toList[j]:=by simp[hj]
      rw[this] at hv1
      obtain rfl:=Option.some.inj hv1
      rw[hv2.born]
      exact e4 e (List.mem_of_getElem? he)
     have conc:∀ e∈es,∃ x∈ces.toList,x.born=e.born:=fun e he=>by
      obtain ⟨j,hj,rfl⟩:=List.getElem_of_mem he
      obtain ⟨v,hv1,hv2⟩:=hall.get j es[j] (by simp[hj])
      exact ⟨v,List.mem_of_getElem? hv1,hv2.born⟩
     rw[hrng (lt_of ho),wpOps_cons]
     rcases run_next_at (P:=P) E.w 0 c (M c) t.since t.stepped t.seen.toArray ces k hc1 hb hold e5 with ⟨h0,hrun⟩|⟨ec,hec,w1,hw1,hrun⟩
     ·refine op_go ho hg hd (x:=.tuple #[.bool false]) (w':=E.w) ?_ ?_
      ·simp only[execOp,hop,hv,Sem.run_bind]
       have:∀ ty,Instr.next (.pointer (some ⟨c,0,none⟩)) false ty=Instr.next (.pointer (some ⟨c,0,none⟩)) false 0:=fun _=>rfl
       rw[this,hrun]
       simp only[Result.andThen_ok,Sem.run_pure]
      ·have hseen:∀ e∈es,e.born∈t.seen:=fun e he=>by
        obtain ⟨x,hx,hxb⟩:=conc e he
        have:=all_seen ces t.seen.toArray h0 x hx
        rw[hxb] at this
        simpa using this
       have hD:RelS X E0 E M (s.put (some d) (.tup [.c (I (.bool false))])) its (a.put (some d) (.tuple #[.bool false])) :=
        ⟨⟨hr.rel.h,hr.rel.ct,hr.rel.wr,hr.rel.tr.put _ ⟨[.bool false],rfl,.cons (VR.bool _) .nil⟩⟩,hr.base,hr.size,hr.low,hr.map⟩
       exact regS_sound hR hCS hG hX l (i+1) _ _ E M _ Q hkl (lt_of ho) (hsN hseen) hD hQ
     ·obtain ⟨hec1,hec2⟩:=mem_left hec
      obtain ⟨j,hj,hje⟩:=List.getElem_of_mem hec1
      have hl:=hall.length
      obtain ⟨e,he⟩:∃ e,es[j]?=some e:=⟨es[j]'(by omega),by simp[show j<es.length by omega]⟩
      obtain ⟨v,hv1,hv2⟩:=hall.get j e he
      have hjj:ces.toList[j]?=some ec:=by rw[← hje];simp[hj]
      rw[hjj] at hv1
      obtain rfl:=Option.some.inj hv1
      have hnew:e.born∉t.seen:=fun q=>by
       rw[hv2.born] at hec2
       have:t.seen.toArray.contains e.born=true:=by simpa using q
       rw[this] at hec2
       simp at hec2
      obtain ⟨t',ht'⟩:∃ t':MIt,t'=⟨t.b,t.g,t.since,t.seen++[e.born],k⟩:=⟨_,rfl⟩
      have hs':=hsE e (List.mem_of_getElem? he) hnew
      rw[← ht'] at hs'
      have hw1h:w1.heap=E.w.heap∧w1.os=E.w.os∧w1.tape=E.w.tape∧w1.output=E.w.output:=by
       rcases hw1 with rfl|rfl<;>exact ⟨rfl,rfl,rfl,rfl⟩
      obtain ⟨wn,hwn⟩:∃ wn:World,wn=Go.ChangeMaps.setBlock w1 c (.mapIter (some (M c)) t.since (t.seen.toArray.push ec.born) k):=⟨_,rfl⟩
      rw[← hwn] at hrun
      have hheap:wn.heap=E.w.heap.setIfInBounds c (.mapIter (some (M c)) t.since (t.seen.toArray.push ec.born) k):=by rw[hwn,← hw1h.1];rfl
      have hoth:∀ j,j≠c→wn.heap[j]?=E.w.heap[j]?:=fun j hj=>by rw[hheap,Array.getElem?_setIfInBounds_ne (Ne.symm hj)]
      have hclt:c<E.w.heap.size:=(Array.getElem?_eq_some_iff.1 hc1).1
      have hself:wn.heap[c]?=some (.mapIter (some (M c)) t.since (t.seen.toArray.push ec.born) k):=by rw[hheap];simp[hclt]
      have hsz:wn.heap.size=E.w.heap.size:=by rw[hheap];simp
      have hH:∀ j,Hor X M (itSet its c t') j=if j=c then some (.mapIter (some (M c)) t.since (t.seen.toArray.push ec.born) k) else Hor X M its j:=fun j=>by
       unfold Hor
       rw[itSet_at e2]
       by_cases q:c=j
       ·subst q
        simp[ht',hv2.born]
       ·have:¬ j=c:=fun r=>q r.symm
        simp only[q,this,if_false]
      have hE:ExtH (X.hide (Hor X M its)) ((X.hide (Hor X M its)).hide (Hor X M (itSet its c t'))) E {E with w:=wn}:=by
       refine ⟨rfl,rfl,rfl,fun q hq=>hoth q fun r=>hc3 (r ▸ hq),fun tg q hq hok=>?_⟩
       have hne:q≠c:=by
        rintro rfl
        rcases hok with ⟨_,p⟩|⟨_,p⟩
        ·exact p (.inr (by show (Hor X M its q).isSome=true;rw[hH0];rfl))
        ·have h5:=(hr.rel.wr.f1 q p).1
         have h6:X.w0.heap.size≤q:=hc2
         have h7:q<X.w0.heap.size:=h5
         omega
       refine ⟨?_,hoth q hne⟩
       rcases hok with ⟨p1,p2⟩|p
       ·refine .inl ⟨p1,fun r=>p2 ?_⟩
        rcases r with r|r
        ·exact .inl r
        ·refine .inr ?_
         have:(Hor X M (itSet its c t') q).isSome=true:=r
         rw[hH,if_neg hne] at this
         exact this
       ·exact .inr p
      have hwr:WR (X.hide (Hor X M (itSet its c t'))) {E with w:=wn}:=hr.rel.wr.extH hE (by rw[hsz];exact Nat.le_refl _) (fun q hq=>hoth q (by have h6:X.w0.heap.size≤c:=hc2;have h7:q<X.w0.heap.size:=hq;omega)) (by rw[hwn];exact hw1h.2.1) (by rw[hwn];exact hw1h.2.2.1) (by rw[hwn];exact hw1h.2.2.2) fun q o' hq=>by
       rw[hH] at hq
       split at hq
       ·rename_i r
        subst r
        obtain rfl:=Option.some.inj hq
        exact ⟨hself,hc2,hc3⟩
       ·rename_i r
        obtain ⟨g1,g2,g3⟩:=hr.rel.wr.hid q o' hq
        exact ⟨by rw[hoth q r];exact g1,g2,g3⟩
      have htr:TR (X.hide (Hor X M (itSet its c t'))) {E with w:=wn} s a:=TR.extH' hE hr.rel.tr
      refine op_go ho hg hd (x:=.tuple #[.bool true,ec.key,ec.val]) (w':=wn) ?_ ?_
      ·simp only[execOp,hop,hv,Sem.run_bind]
       have:∀ ty,Instr.next (.pointer (some ⟨c,0,none⟩)) false ty=Instr.next (.pointer (some ⟨c,0,none⟩)) false 0:=fun _=>rfl
       rw[this,hrun]
       simp only[Result.andThen_ok,Sem.run_pure]
      ·have hD:RelS X E0 {E with w:=wn} M (s.put (some d) (.tup [.c (I (.bool true)),e.key,e.val])) (itSet its c t') (a.put (some d) (.tuple #[.bool true,ec.key,ec.val])):=by
        refine ⟨⟨hr.rel.h,hr.rel.ct,hwr,htr.put _ ⟨[.bool true,ec.key,ec.val],rfl,.cons (VR.bool _) (.cons (hv2.key.extH hE) (.cons (hv2.val.extH hE) .nil))⟩⟩,hr.base.stepH rfl rfl rfl (fun q hq=>hoth q fun r=>hc3 (r ▸ hq)) (fun q hq=>hoth q (by have:=hr.low c t e2;omega)),by show E0.w.heap.size≤wn.heap.size;rw[hsz];exact hr.size,fun q u hq=>?_,fun q u hq=>?_⟩
        ·rw[itSet_at e2] at hq
         split at hq
         ·rename_i r;subst r;exact hr.low c t e2
         ·exact hr.low q u hq
        ·rw[itSet_at e2] at hq
         split at hq
         ·rename_i r
          subst r
          obtain rfl:=Option.some.inj hq
          have:=hr.map c t e2
          rw[ht']
          exact this
         ·exact hr.map q u hq
       exact regS_sound hR hCS hG hX l (i+1) _ _ _ M _ Q hkl (lt_of ho) hs' hD hQ
    ·simp at hk
   ·simp at hk
  |ent d y =>
   simp only[okSL,SIns.isOp,if_true,Bool.and_eq_true,okSIns] at hk
   obtain ⟨hk,hkl⟩:=hk
   split at hk
   ·rename_i o ho
    simp only[Bool.and_eq_true,beq_iff_eq] at hk
    obtain ⟨⟨hd,hg⟩,hk⟩:=hk
    split at hk
    ·rename_i z hop
     obtain ⟨c,t,es,k,e,sn,e1,e2,e3,e4,e5,e6,e7,hs⟩:=hs
     have rx:=ev_sound hr.rel.tr hk
     rw[e1] at rx
     have hv:a.eval z=.pointer (some ⟨c,0,none⟩):=by
      have rx2:VR _ _ (.gp c 0) (a.eval z):=rx
      cases hq:a.eval z<;>rw[hq] at rx2<;>cases rx2
      rfl
     rw[← hr.rel.h] at e3
     obtain ⟨hget,hcur⟩:=Heap.mapAt_eq e3
     obtain ⟨⟨ces,hb,hall⟩,_,_⟩:=hr.rel.wr.blk t.b _ hget
     have hMc:=(hr.map c t e2).2 hcur
     have hH0:Hor X M its c=some (.mapIter (some (M c)) t.since t.seen.toArray t.stepped):=Hor_some e2
     obtain ⟨hc1,_,_⟩:=hr.rel.wr.hid c _ hH0
     rw[hMc] at hb
     obtain ⟨j,hj,hje⟩:=List.getElem_of_mem e5
     obtain ⟨ec,hv1,hv2⟩:=hall.get j e (by rw[← hje];simp[hj])
     have hborn:ces.toList.map (·.born)=es.map (·.born):=by
      apply List.ext_getElem?
      intro q
      rw[List.getElem?_map,List.getElem?_map]
      cases hq:es[q]? with
      |none =>
       have h1:=hall.length
       have h2:es.length≤q:=by simpa using hq
       rw[List.getElem?_eq_none (by omega)];rfl
      |some u =>
       obtain ⟨uc,u1,u2⟩:=hall.get q u hq
       rw[u1]
       simp[u2.born]
     rw[e6,e4,← hv2.born] at hc1
     have hc1':E.w.heap[c]?=some (.mapIter (some (M c)) t.since (sn.toArray.push ec.born) k):=by rw[hc1];simp
     have hrun:=run_entry_at (P:=P) E.w c (M c) t.since sn.toArray ces k ec hc1' hb (List.mem_of_getElem? hv1) (by rw[hborn];exact e7)
     rw[hrng (lt_of ho),wpOps_cons]
     refine op_go ho hg hd (x:=.tuple #[ec.key,ec.val]) (w':=E.w) ?_ ?_
     ·simp only[execOp,hop,hv,Sem.run_bind,hrun,Result.andThen_ok,Sem.run_pure]
     ·have hD:RelS X E0 E M (s.put (some d) (.tup [e.key,e.val])) its (a.put (some d) (.tuple #[ec.key,ec.val])) :=
       ⟨⟨hr.rel.h,hr.rel.ct,hr.rel.wr,hr.rel.tr.put _ ⟨[ec.key,ec.val],rfl,.cons hv2.key (.cons hv2.val .nil)⟩⟩,hr.base,hr.size,hr.low,hr.map⟩
      exact regS_sound hR hCS hG hX l (i+1) _ _ E M _ Q hkl (lt_of ho) hs hD hQ
    ·simp at hk
   ·simp at hk
  |new d k =>
   obtain ⟨v,h,c,e1,hs⟩:=hs
   simp only[okSL,SIns.isOp,if_true,Bool.and_eq_true,okSIns] at hk
   obtain ⟨hk,hkl⟩:=hk
   split at hk
   ·rename_i o ho
    simp only[Bool.and_eq_true,beq_iff_eq] at hk
    obtain ⟨⟨hd,hg⟩,hk⟩:=hk
    rw[hrng (lt_of ho),wpOps_cons]
    unfold wpOp
    have hw:Region.wanted o (yielded ops a.tmps)=true:=by
     have:o.guard=none:=by simpa using hg
     simp[Region.wanted,this]
    simp only[ho,hw,if_true]
    refine .inl (opK_sound hR hr.rel.wr hG hr.rel.tr hr.rel.h hr.rel.ct hk e1 _ _ ?_)
    intro E' x e1 e2 e3 e4 e5 e6
    rw[hd]
    refine regS_sound hR hCS hG hX l (i+1) _ its E' M _ Q hkl (lt_of ho) hs (hr.ext hX ⟨?_,?_,e3,TR.put (s:={s with hp:=h,ct:=c}) (hr.rel.tr.ext e4 rfl) _ e6⟩ e4 e5) hQ
    ·simpa[St.put,St.with] using e1
    ·simpa[St.put,St.with] using e2
   ·simp at hk
  |inl d f args =>
   obtain ⟨as,e1,hs⟩:=hs
   simp only[okSL,SIns.isOp,if_true,Bool.and_eq_true,okSIns] at hk
   obtain ⟨hk,hkl⟩:=hk
   split at hk
   ·rename_i o ho
    simp only[Bool.and_eq_true,beq_iff_eq] at hk
    obtain ⟨⟨hd,hg⟩,hk⟩:=hk
    split at hk
    ·rename_i f' cas ts hop
     simp only[Bool.and_eq_true,beq_iff_eq] at hk
     obtain ⟨rfl,hk⟩:=hk
     have hae:=evals_sound hr.rel.tr hk e1
     have hc:=hCS _ _ _ _ _ hs (X.hide (Hor X M its)) E _ hr.rel.wr hG hr.rel.h hr.rel.ct hae
     rw[hrng (lt_of ho),wpOps_cons]
     unfold wpOp
     have hw:Region.wanted o (yielded ops a.tmps)=true:=by
      have:o.guard=none:=by simpa using hg
      simp[Region.wanted,this]
     simp only[ho,hw,if_true]
     refine .inl (call_goS hop rfl (by apply Array.ext';simp) hc ?_)
     rintro v w' ⟨E',rfl,q1,q2,q3,rs,vs,q4,rfl,q5⟩
     rw[hd]
     refine regS_sound hR hCS hG hX l (i+1) _ its E' M _ Q hkl (lt_of ho) q5 (hr.ext hX ⟨?_,?_,q1,?_⟩ q2 q3) hQ
     ·cases d<;>rfl
     ·cases d<;>rfl
     ·exact TR.put (s:={s with hp:=E'.h,ct:=E'.ct}) (hr.rel.tr.ext q2 rfl) _ (resV_sound q4)
    ·simp at hk
   ·simp at hk
  |rn b c =>
   simp only[wpSL] at hs
   split at hs
   ·rename_i x hx
    obtain ⟨e5,e6,hs⟩:=hs
    obtain ⟨E',h1,h2,h3⟩:=mv_sound hr.rel hx e5 e6
    rw[← h1]
    exact regS_sound hR hCS hG hX l i _ its E' M a Q (by simpa[okSL,SIns.isOp] using hk) hi hs (hr.ext hX h2 h3 (by rw[h1];exact Nat.le_refl _)) hQ
   ·exact regS_sound hR hCS hG hX l i _ its E M a Q (by simpa[okSL,SIns.isOp] using hk) hi hs hr hQ
def BehS(X:Cx)(E0:Env)(Q:Ex→St→Its→Prop)(e:Exit)(a':Act)(w':World):Prop:=∃ ex s' its' E' M',ExOk ex e∧E'.w=w'∧RelS X E0 E' M' s' its' a'∧Q ex s' its'
theorem codeS_sound(hR:RunOk P G R)(hCS:COkS P G C)(hG:GOk X G)(hX:∀ c o,X.H c=some o→c<E0.w.heap.size):∀ (x:IRS) (c:Code) (s:St) (its:Its) (E:Env) (M:Nat→Nat) (a:Act) (Q:Ex→St→Its→Prop),okIRS P x c=true→wpS G R C x s its Q→RelS X E0 E M s its a→c.wp P (BehS X E0 Q) a E.w
 |.base x,c,s,its,E,M,a,Q,hk,hs,hr=>by
  obtain ⟨n,ex,s',hs,hQ⟩:=hs
  refine wp_mono (exec_sound (X:=X.hide (Hor X M its)) hR hG n x c s s' ex E a hk hs hr.rel) ?_
  rintro e a' w' ⟨he,E',rfl,h1,h2,h3⟩
  exact ⟨ex,s',its,E',M,he,rfl,hr.ext hX h1 h2 h3,hQ⟩
 |.reg l,c,s,its,E,M,a,Q,hk,hs,hr=>by
  cases c<;>simp[okIRS] at hk
  rename_i id ops draw
  obtain ⟨rfl,hk⟩:=hk
  refine wp_region ?_
  have:=regS_sound hR hCS hG hX (Q':=BehS X E0 Q) l 0 s its E M a (Q .normal) hk (Nat.zero_le _) hs hr fun E' M' s' its' a' hq h1=>⟨.normal,s',its',E',M',trivial,rfl,h1,hq⟩
  simpa using this
 |.seq x y,c,s,its,E,M,a,Q,hk,hs,hr=>by
  cases c<;>simp[okIRS] at hk
  rename_i c d
  refine wp_seq (wp_mono (codeS_sound hR hCS hG hX x c s its E M a _ hk.1 hs hr) ?_)
  rintro e a' w' ⟨ex,s',its',E',M',he,rfl,h1,hq⟩
  cases ex with
  |normal =>
   cases e<;>simp[ExOk] at he
   exact codeS_sound hR hCS hG hX y d s' its' E' M' a' Q hk.2 hq h1
  |exit i =>
   cases e<;>simp[ExOk] at he
   subst he
   exact ⟨.exit i,s',its',E',M',rfl,rfl,h1,hq⟩
  |ret =>
   cases e<;>simp[ExOk] at he
   exact ⟨.ret,s',its',E',M',trivial,rfl,h1,hq⟩
 |.cond x p q,c,s,its,E,M,a,Q,hk,hs,hr=>by
  cases c<;>simp[okIRS] at hk
  rename_i y c d
  obtain ⟨b,hb,h1,h2⟩:=hs
  have r:=ev_sound hr.rel.tr hk.1.1
  cases b with
  |true=>exact wp_cond_true (bool_sound r hb) (codeS_sound hR hCS hG hX p c s its E M a Q hk.1.2 (h1 rfl) hr)
  |false=>exact wp_cond_false (bool_sound r hb) (codeS_sound hR hCS hG hX q d s its E M a Q hk.2 (h2 rfl) hr)
 |.block i x,c,s,its,E,M,a,Q,hk,hs,hr=>by
  cases c<;>simp[okIRS] at hk
  rename_i j c
  obtain ⟨rfl,hk⟩:=hk
  refine wp_block (wp_mono (codeS_sound hR hCS hG hX x c s its E M a _ hk hs hr) ?_)
  rintro e a' w' ⟨ex,s',its',E',M',he,rfl,h1,hq⟩
  cases ex with
  |normal =>
   cases e<;>simp[ExOk] at he
   exact ⟨.normal,s',its',E',M',trivial,rfl,h1,hq⟩
  |exit k =>
   cases e<;>simp[ExOk] at he
   subst he
   simp only[Exit.inBlock]
   simp only[inBlkS] at hq
   split
   ·rename_i h
    simp only[h,if_true] at hq
    exact ⟨.normal,s',its',E',M',trivial,rfl,h1,hq⟩
   ·rename_i h
    simp only[h,if_false] at hq
    exact ⟨.exit k,s',its',E',M',rfl,rfl,h1,hq⟩
  |ret =>
   cases e<;>simp[ExOk] at he
   exact ⟨.ret,s',its',E',M',trivial,rfl,h1,hq⟩
 |.loop x,c,s,its,E,M,a,Q,hk,hs,hr=>by
  cases c<;>simp[okIRS] at hk
  rename_i c
  intro b k cs
  have key:=(hs:loopW _ _ _ _) (fun s its=>∀ (E:Env) (M:Nat→Nat) (a:Act),RelS X E0 E M s its a→∃ e a' w',BehS X E0 Q e a' w'∧Arrives P (lone (b.at a (.code c::.inLoop c::k)) cs E.w) b k cs e a' w') ?_ E M a hr
  ·obtain ⟨e,a',w',hq,harr⟩:=key
   exact ⟨e,a',w',hq,.of_steps (.one step_loop) harr⟩
  ·intro s its hs E M a hr
   obtain ⟨e,a₁,w₁,⟨ex,s',its',E',M',he,rfl,h1,hq⟩,harr⟩:=codeS_sound hR hCS hG hX x c s its E M a _ hk hs hr b (.inLoop c::k) cs
   cases ex with
   |normal =>
    cases e<;>simp[ExOk] at he
    obtain ⟨e₂,a₂,w₂,hq₂,harr₂⟩:=hq E' M' a₁ h1
    exact ⟨e₂,a₂,w₂,hq₂,.of_steps (Steps.trans harr (.one step_inLoop)) harr₂⟩
   |exit i =>
    cases e<;>simp[ExOk] at he
    subst he
    exact ⟨.exit i,a₁,_,⟨.exit i,s',its',E',M',rfl,rfl,h1,hq⟩,.pass (x:=.inLoop c) rfl (fun _ _=>.inl (by simp)) harr⟩
   |ret =>
    cases e<;>simp[ExOk] at he
    exact ⟨.ret,a₁,_,⟨.ret,s',its',E',M',trivial,rfl,h1,hq⟩,.pass (x:=.inLoop c) rfl (fun _ _=>.inl (by simp)) harr⟩
end
structure FnS where
  nt:Nat
  res:List Res
  body:IRS
def okFnS(P:Program)(f:Nat)(fn:FnS):Bool :=
  match P.funcs[f]? with
  |some g=>match g.body with
    | some c=>g.ntmps == fn.nt && okRes P g.results.toList fn.res && okIRS P fn.body c && g.name != "runtime.NumGoroutine"
    |none=>false
  |none=>false
def startS(fd:FnS)(as:List A1)(hp:Heap)(ct:Nat):St:={tm:=as.map .v++List.replicate (fd.nt-as.length) .und,hp:=hp,ct:=ct}
def endC(res:List Res)(Q:List A1→Heap→Nat→Prop):Ex→St→Its→Prop
  |.exit _,_,_=>False
  |_,s,_=>∃ rs,traverse (readRes s) res=some rs∧Q rs s.hp s.ct
def inlC(G:Nat→List IV)(R:Run)(D:Nat→Option FnS):Nat→CT
  |0=>fun _ _ _ _ _=>False
  |k+1=>fun f as hp ct Q=>∃ fd,D f=some fd∧wpS G R (inlC G R D k) fd.body (startS fd as hp ct) [] (endC fd.res Q)
section
variable {P:Program} {G:Nat→List IV} {R:Run} {D:Nat→Option FnS}
theorem endC_mono{res:List Res}{Q Q':List A1→Heap→Nat→Prop}(h:∀ rs hp ct,Q rs hp ct→Q' rs hp ct)(e:Ex)(s:St)(its:Its)(k:endC res Q e s its):endC res Q' e s its:=by
 cases e with
 |exit i=>exact k
 |normal=>obtain ⟨rs,h1,h2⟩:=k;exact ⟨rs,h1,h _ _ _ h2⟩
 |ret=>obtain ⟨rs,h1,h2⟩:=k;exact ⟨rs,h1,h _ _ _ h2⟩
theorem inlC_good:∀ k,CGood (inlC G R D k)
 |0=>⟨fun _ h=>h,fun h _=>h,fun h=>h.elim⟩
 |k+1=>by
  have ih:=inlC_good k
  refine ⟨fun hQ h=>?_,fun h h'=>?_,fun h=>?_⟩
  ·obtain ⟨fd,h1,h2⟩:=h
   exact ⟨fd,h1,wpS_mono ih _ _ _ _ _ (endC_mono hQ) h2⟩
  ·obtain ⟨fd,h1,h2⟩:=h
   obtain ⟨fd2,i1,i2⟩:=h'
   rw[h1] at i1
   obtain rfl:=Option.some.inj i1
   refine ⟨fd,h1,wpS_mono ih _ _ _ _ _ (fun e s its q=>?_) (wpS_both ih _ _ _ _ _ h2 i2)⟩
   obtain ⟨q1,q2⟩:=q
   cases e with
   |exit i=>exact q1
   |normal =>
    obtain ⟨rs,a1,a2⟩:=q1
    obtain ⟨rs2,b1,b2⟩:=q2
    rw[a1] at b1
    obtain rfl:=Option.some.inj b1
    exact ⟨rs,a1,a2,b2⟩
   |ret =>
    obtain ⟨rs,a1,a2⟩:=q1
    obtain ⟨rs2,b1,b2⟩:=q2
    rw[a1] at b1
    obtain rfl:=Option.some.inj b1
    exact ⟨rs,a1,a2,b2⟩
  ·obtain ⟨fd,h1,h2⟩:=h
   obtain ⟨e,s,its,h3⟩:=wpS_some ih _ _ _ _ h2
   cases e with
   |exit i=>exact h3.elim
   |normal=>obtain ⟨rs,a1,a2⟩:=h3;exact ⟨_,_,_,a2⟩
   |ret=>obtain ⟨rs,a1,a2⟩:=h3;exact ⟨_,_,_,a2⟩
theorem inlC_ok(hR:RunOk P G R)(hD:∀ f fd,D f=some fd→okFnS P f fd=true):∀ k,COkS P G (inlC G R D k)
 |0=>fun f as hp ct Q h=>h.elim
 |k+1=>by
  intro f as hp ct Q h X E cargs hW hG hh hct ha
  obtain ⟨fd,hfd,hwp⟩:=h
  have ih:=inlC_ok hR hD k
  have hok:=hD f fd hfd
  unfold okFnS at hok
  split at hok
  ·rename_i g hg
   split at hok
   ·rename_i c hc
    simp at hok
    obtain ⟨⟨⟨hnt,hres⟩,hir⟩,hname⟩:=hok
    refine .inl ⟨?_,?_⟩
    ·simp[callFunc,hg,hname,hc]
    ·have hl:=ha.length
     have hr0:Rel X E (startS fd as hp ct) {tmps:=cargs.toArray++Array.replicate (g.ntmps-cargs.toArray.size) undef,defers:=[]}:=by
      refine ⟨hh,hct,hW,rfl,?_,fun i v hv=>?_⟩
      ·simp[startS,hnt,hl]
      ·simp only[startS] at hv
       by_cases hi:i<as.length
       ·rw[List.getElem?_append_left (by simpa using hi),List.getElem?_map] at hv
        cases hq:as[i]? with
        |none=>simp[hq] at hv
        |some z =>
         simp[hq] at hv
         subst hv
         obtain ⟨w,hw,hrw⟩:=ha.get i z hq
         have hi2:i<cargs.length:=by omega
         have hw2:cargs[i]=w:=by
          have:=List.getElem?_eq_getElem hi2
          rw[hw] at this;simpa using this.symm
         have:(cargs.toArray++Array.replicate (g.ntmps-cargs.toArray.size) undef).getD i undef=w:=by
          rw[Array.getD_eq_getD_getElem?,Array.getElem?_append_left (by simpa using hi2)]
          simp[hi2,hw2]
         rw[this]
         exact hrw
       ·rw[List.getElem?_append_right (by simpa using Nat.le_of_not_lt hi)] at hv
        rw[List.getElem?_replicate] at hv
        split at hv
        ·simp at hv;subst hv;trivial
        ·simp at hv
     have hX':∀ c o,X.H c=some o→c<E.w.heap.size:=fun c o q=>(Array.getElem?_eq_some_iff.1 (hW.hid c o q).1).1
     have hrd:RelS X E E (fun _=>0) (startS fd as hp ct) [] {tmps:=cargs.toArray++Array.replicate (g.ntmps-cargs.toArray.size) undef,defers:=[]} :=
      ⟨hr0,Ext.refl X E,Nat.le_refl _,fun c t hc=>by simp[itAt] at hc,fun c t hc=>by simp[itAt] at hc⟩
     refine calls_of_wp hg hc (wp_mono (codeS_sound hR ih hG hX' fd.body c _ [] E _ _ _ hir hwp hrd) ?_)
     rintro e a' w' ⟨ex,s1,its,E',M',h1,rfl,h2,h3⟩
     have hun:ExtH (X.hide (Hor X M' its)) X E' E':=by
      refine ⟨rfl,rfl,rfl,fun _ _=>rfl,fun t c hc hk=>⟨?_,rfl⟩⟩
      rcases hk with ⟨p1,p2⟩|p
      ·refine .inl ⟨p1,fun q=>p2 ?_⟩
       rcases q with q|q
       ·exact .inl q
       ·refine .inr ?_
        show (Hor X M' its c).isSome=true
        unfold Hor
        split
        ·rfl
        ·exact q
      ·exact .inr p
     have hwr:WR X E':=WR.extH (X:=X.hide (Hor X M' its)) (H':=X.H) h2.rel.wr hun (Nat.le_refl _) (fun _ _=>rfl) rfl rfl rfl fun c o q=>by
      have hn:itAt its c=none:=by
       cases ht:itAt its c with
       |none=>rfl
       |some t =>
        have h1:=h2.low c t ht
        have h2:=hX' c o q
        omega
      exact h2.rel.wr.hid c o (by show Hor X M' its c=some o;rw[Hor_none hn];exact q)
     have fin:(∃ rs,traverse (readRes s1) fd.res=some rs∧Q rs s1.hp s1.ct)→a'.defers=[]∧∃ v,(results g a'.tmps).run P E'.w=.ok v E'.w∧∃ v',Ending.returned v=.returned v'∧∃ E'',E''.w=E'.w∧WR X E''∧Ext X E E''∧E.w.heap.size≤E''.w.heap.size∧∃ rs vs,All2 (A1R X E'') rs vs∧v'=retV vs∧Q rs E''.h E''.ct:=fun ⟨rs,hrs,hQ⟩=>by
      obtain ⟨vs,q1,q2⟩:=results_sound h2.rel hres hrs
      refine ⟨h2.rel.tr.defers,_,q1,_,rfl,E',rfl,hwr,h2.base,h2.size,rs,vs,q2.mono fun x v q=>A1R.extH hun q,rfl,?_⟩
      rw[h2.rel.h,h2.rel.ct]
      exact hQ
     cases ex with
     |normal=>cases e<;>simp[ExOk] at h1;exact fin h3
     |ret=>cases e<;>simp[ExOk] at h1;exact fin h3
     |exit i=>exact h3.elim
   ·simp at hok
  ·simp at hok
noncomputable def demS(G:Nat→List IV)(R:Run)(D:Nat→Option FnS)(k:Nat):Run:=fun f args bs =>
  match bs with
  |[]=>open Classical in if h:∃ rs,inlC G R D k f args [] 1 (fun rs' _ _=>rs'=rs) then some (h.choose,[]) else none
  |_=>none
theorem demS_of{k f:Nat}{args rs:List A1}(h:inlC G R D k f args [] 1 fun rs' _ _=>rs'=rs):demS G R D k f args []=some (rs,[]):=by
 have hex:∃ rs,inlC G R D k f args [] 1 (fun rs' _ _=>rs'=rs):=⟨rs,h⟩;have e:demS G R D k f args []=some (hex.choose,[]):=by
  unfold demS;simp only;rw[dif_pos hex]
 rw[e];obtain ⟨rs',hp,ct,h1,h2⟩:=(inlC_good k).some ((inlC_good k).both h hex.choose_spec);rw[← h1,h2]
theorem delAll_all:∀ (l:List Nat) (h:Heap),(∀ b x,(b,x)∈h→b∈l)→delAll h l=[]
 |[],h,hh=>by
  cases h with
  |nil=>rfl
  |cons p t=>exact absurd (hh p.1 p.2 (List.mem_cons_self ..)) (by simp)
 |b::l,h,hh=>by
  refine delAll_all l _ fun c x hc=>?_
  have:=mem_del h hc
  rcases List.mem_cons.1 (hh c x this.1) with q|q
  ·exact absurd q this.2
  ·exact q
theorem demS_ok(hR:RunOk P G R)(hD:∀ f fd,D f=some fd→okFnS P f fd=true)(k:Nat):RunOk P G (demS G R D k):=by
 intro f args bs rs h e X ids E0 lent cargs X' E hW hG ha;unfold demS at e;split at e;rotate_left
 ·simp at e
 split at e;rotate_left
 ·simp at e
 rename_i hex;simp only[Option.some.injEq,Prod.mk.injEq] at e;obtain ⟨e1,rfl⟩:=e;have hwp:=hex.choose_spec;rw[e1] at hwp;refine (inlC_ok hR hD k f args [] 1 _ hwp X' E cargs hW hG rfl rfl ha).mono ?_;rintro v w' ⟨E',rfl,q1,q2,q3,rs',vs,q4,rfl,q5⟩;obtain rfl:rs'=rs:=q5;have hde:=Drop.ext X' E' (E'.h.map Prod.fst);have hnil:delAll E'.h (E'.h.map Prod.fst)=[]:=delAll_all _ _ fun b x hb=>List.mem_map.2 ⟨(b,x),hb,rfl⟩;rw[hnil] at hde;have hwr':=Drop.wr (E'.h.map Prod.fst) q1;rw[hnil] at hwr';exact ⟨{E' with h:=[]},rfl,rfl,hwr',q2.trans hde q3,vs,q4.mono fun x v q=>q.ext hde,rfl⟩
end
/- Stepping rules. -/
section
variable {nt:Nat} {σ:Sl} {hp:Heap} {ct:Nat} {its:Its} {G:Nat→List IV} {R:Run} {C:CT}
def wpSσ(G:Nat→List IV)(R:Run)(C:CT)(nt:Nat)(c:IRS)(σ:Sl)(hp:Heap)(ct:Nat)(its:Its)(Q:Ex→Sl→Heap→Nat→Its→Prop):Prop :=
  wpS G R C c (mkS nt σ hp ct) its fun ex s its=>∃ σ' hp' ct',s=mkS nt σ' hp' ct'∧Q ex σ' hp' ct' its
def thenS(G:Nat→List IV)(R:Run)(C:CT)(nt:Nat)(b:IRS)(Q:Ex→Sl→Heap→Nat→Its→Prop):Ex→Sl→Heap→Nat→Its→Prop
  |.normal,σ,hp,ct,its=>wpSσ G R C nt b σ hp ct its Q
  |ex,σ,hp,ct,its=>Q ex σ hp ct its
def blkS(id:Nat)(Q:Ex→Sl→Heap→Nat→Its→Prop):Ex→Sl→Heap→Nat→Its→Prop
  |.exit i,σ,hp,ct,its=>Q (if i=id then .normal else .exit i) σ hp ct its
  |ex,σ,hp,ct,its=>Q ex σ hp ct its
def againS(I:Nat→Sl→Heap→Nat→Its→Prop)(m:Nat)(Q:Ex→Sl→Heap→Nat→Its→Prop):Ex→Sl→Heap→Nat→Its→Prop
  |.normal,σ,hp,ct,its=>∃ m',m'<m∧I m' σ hp ct its
  |ex,σ,hp,ct,its=>Q ex σ hp ct its
theorem gS{c:IRS}{Q:Ex→Sl→Heap→Nat→Its→Prop}(h:∀ σ',σ'=σ→wpSσ G R C nt c σ' hp ct its Q):wpSσ G R C nt c σ hp ct its Q:=h σ rfl
theorem sw_base{x:IR}{Q:Ex→Sl→Heap→Nat→Its→Prop}(h:wpE G R nt x σ hp ct fun ex σ hp ct=>Q ex σ hp ct its):wpSσ G R C nt (.base x) σ hp ct its Q:=by
 obtain ⟨n,ex,σ',hp',ct',h1,h2⟩:=h;exact ⟨n,ex,_,h1,σ',hp',ct',rfl,h2⟩
section
variable (hC:CGood C)
include hC
theorem sw_mono{c:IRS}{Q Q':Ex→Sl→Heap→Nat→Its→Prop}(hQ:∀ e σ hp ct its,Q e σ hp ct its→Q' e σ hp ct its)(h:wpSσ G R C nt c σ hp ct its Q):wpSσ G R C nt c σ hp ct its Q' :=
 wpS_mono hC _ _ _ _ _ (fun e s its ⟨σ',hp',ct',h1,h2⟩=>⟨σ',hp',ct',h1,hQ _ _ _ _ _ h2⟩) h
theorem sw_seq{a b:IRS}{Q:Ex→Sl→Heap→Nat→Its→Prop}(h:wpSσ G R C nt a σ hp ct its (thenS G R C nt b Q)):wpSσ G R C nt (.seq a b) σ hp ct its Q:=by
 refine wpS_mono hC a _ _ _ _ (fun e s its q=>?_) h;obtain ⟨σ',hp',ct',rfl,q⟩:=q;cases e
 ·exact q
 all_goals exact ⟨σ',hp',ct',rfl,q⟩
theorem sw_block{id:Nat}{a:IRS}{Q:Ex→Sl→Heap→Nat→Its→Prop}(h:wpSσ G R C nt a σ hp ct its (blkS id Q)):wpSσ G R C nt (.block id a) σ hp ct its Q:=by
 refine wpS_mono hC a _ _ _ _ (fun e s its q=>?_) h;obtain ⟨σ',hp',ct',rfl,q⟩:=q;cases e
 all_goals exact ⟨σ',hp',ct',rfl,q⟩
theorem sw_loop{a:IRS}{Q:Ex→Sl→Heap→Nat→Its→Prop}(I:Nat→Sl→Heap→Nat→Its→Prop)(m:Nat)(h0:I m σ hp ct its)(hs:∀ m σ hp ct its,I m σ hp ct its→wpSσ G R C nt a σ hp ct its (againS I m Q)):wpSσ G R C nt (.loop a) σ hp ct its Q:=by
 intro L hL;have key:∀ (m:Nat) (σ:Sl) (hp:Heap) (ct:Nat) (its:Its),I m σ hp ct its→L (mkS nt σ hp ct) its:=by
  intro m;induction m using Nat.strongRecOn with
  |_ m ih =>
   intro σ hp ct its hI;refine hL _ _ (wpS_mono hC _ _ _ _ _ (fun e s its q=>?_) (hs m σ hp ct its hI));obtain ⟨σ',hp',ct',rfl,q⟩:=q;cases e with
   |normal =>
    obtain ⟨m',hlt,hI'⟩:=q;exact ih m' hlt _ _ _ _ hI'
   |_=>exact ⟨σ',hp',ct',rfl,q⟩
 exact key m σ hp ct its h0
end
def wpSLσ(G:Nat→List IV)(R:Run)(C:CT)(nt:Nat)(l:List SIns)(σ:Sl)(hp:Heap)(ct:Nat)(its:Its)(Q:Sl→Heap→Nat→Its→Prop):Prop :=
  wpSL G R C l (mkS nt σ hp ct) its fun s its=>∃ σ' hp' ct',s=mkS nt σ' hp' ct'∧Q σ' hp' ct' its
theorem sw_reg{l:List SIns}{Q:Ex→Sl→Heap→Nat→Its→Prop}(h:wpSLσ G R C nt l σ hp ct its (Q .normal)):wpSσ G R C nt (.reg l) σ hp ct its Q:=h
theorem sw_nil{Q:Sl→Heap→Nat→Its→Prop}(h:Q σ hp ct its):wpSLσ G R C nt [] σ hp ct its Q:=⟨σ,hp,ct,rfl,h⟩
theorem sw_ins{x:Ins}{l:List SIns}{Q:Sl→Heap→Nat→Its→Prop}(h:wpL G R nt [x] (fun σ hp ct=>wpSLσ G R C nt l σ hp ct its Q) σ hp ct):wpSLσ G R C nt (.ins x::l) σ hp ct its Q:=by
 obtain ⟨σ',hp',ct',h1,h2⟩:=wpL_sound h;simp only[insL] at h1;split at h1
 ·rename_i s1 hs1
  simp only[Option.some.injEq] at h1;subst h1;exact ⟨_,hs1,h2⟩
 ·simp at h1
theorem sw_rng{d:Nat}{x:Opd}{l:List SIns}{Q:Sl→Heap→Nat→Its→Prop}{b g k:Nat}{es:List Ent}(h1:evσ nt σ x=.v (.c (.r (.map b g))))(h2:hp.mapAt b g=some (es,k))
  (h:∀ c,itAt its c=none→wpSLσ G R C nt l (upd σ d (V (.gp c 0))) hp ct ((c,⟨b,g,k,[],k⟩)::its) Q):wpSLσ G R C nt (.rng d x::l) σ hp ct its Q :=
 ⟨b,g,es,k,by rw[ev_mk];exact h1,h2,fun c hc=>by rw[put_mk];exact h c hc⟩
theorem sw_nx{d:Nat}{x:Opd}{l:List SIns}{Q:Sl→Heap→Nat→Its→Prop}{c k:Nat}{t:MIt}{es:List Ent}(h1:evσ nt σ x=V (.gp c 0))(h2:itAt its c=some t)(h3:hp.mapAt t.b t.g=some (es,k))(h4:∀ e∈es,e.born<t.since)(h5:t.since≤t.stepped)
  (hN:(∀ e∈es,e.born∈t.seen)→wpSLσ G R C nt l (upd σ d (.tup [.c (I (.bool false))])) hp ct its Q)
  (hE:∀ e∈es,e.born∉t.seen→wpSLσ G R C nt l (upd σ d (.tup [.c (I (.bool true)),e.key,e.val])) hp ct (itSet its c ⟨t.b,t.g,t.since,t.seen++[e.born],k⟩) Q):wpSLσ G R C nt (.nx d x::l) σ hp ct its Q :=
 ⟨c,t,es,k,by rw[ev_mk];exact h1,h2,h3,h4,h5,fun q=>by rw[put_mk];exact hN q,fun e he q=>by rw[put_mk];exact hE e he q⟩
theorem sw_ent{d:Nat}{x:Opd}{l:List SIns}{Q:Sl→Heap→Nat→Its→Prop}{c k:Nat}{t:MIt}{es:List Ent}{e:Ent}{sn:List Nat}(h1:evσ nt σ x=V (.gp c 0))(h2:itAt its c=some t)(h3:hp.mapAt t.b t.g=some (es,k))(h4:t.stepped=k)(h5:e∈es)(h6:t.seen=sn++[e.born])(h7:(es.map (·.born)).Nodup)
  (h:wpSLσ G R C nt l (upd σ d (.tup [e.key,e.val])) hp ct its Q):wpSLσ G R C nt (.ent d x::l) σ hp ct its Q :=
 ⟨c,t,es,k,e,sn,by rw[ev_mk];exact h1,h2,h3,h4,h5,h6,h7,by rw[put_mk];exact h⟩
theorem sw_rn{b c:Nat}{co:Option Nat}{x:Blk}{l:List SIns}{Q:Sl→Heap→Nat→Its→Prop}(h2:hp.get b=some x)(hc:co.getD (newB hp)=c)(h3:b≠c)(h4:b<PB)
  (h:wpSLσ G R C nt l (fun t=>renV b x.gen c ct (σ t)) (((renH b x.gen c ct hp).del b).set c (reGen ct (renB b x.gen c ct x))) (ct+1) its Q):wpSLσ G R C nt (.rn b co::l) σ hp ct its Q:=by
 subst hc;unfold wpSLσ;simp only[wpSL,show (mkS nt σ hp ct).hp=hp from rfl,h2];refine ⟨h3,h4,?_⟩;have e:mvm (mkS nt σ hp ct) b (co.getD (newB hp)) x=mkS nt (fun t=>renV b x.gen (co.getD (newB hp)) ct (σ t)) (((renH b x.gen (co.getD (newB hp)) ct hp).del b).set (co.getD (newB hp)) (reGen ct (renB b x.gen (co.getD (newB hp)) ct x))) (ct+1):=by
  simp only[mvm,mkS,List.map_map];rfl
 rw[e];exact h
theorem sw_rn0{b:Nat}{co:Option Nat}{l:List SIns}{Q:Sl→Heap→Nat→Its→Prop}(h2:hp.get b=none)(h:wpSLσ G R C nt l σ hp ct its Q):wpSLσ G R C nt (.rn b co::l) σ hp ct its Q:=by
 unfold wpSLσ;simp only[wpSL,show (mkS nt σ hp ct).hp=hp from rfl,h2];exact h
theorem fnS_wp{D:Nat→Option FnS}{f k:Nat}{fd:FnS}(hf:D f=some fd){args:List A1}(hn:args.length≤fd.nt){Q:List A1→Heap→Nat→Prop}
  (h:wpSσ G R (inlC G R D k) fd.nt fd.body (ini args) hp ct [] fun ex σ hp ct _=>match ex with
   |.exit _=>False
   |_=>∃ rs,traverse (readRσ fd.nt σ hp) fd.res=some rs∧Q rs hp ct):inlC G R D (k+1) f args hp ct Q:=by
 refine ⟨fd,hf,?_⟩
 have e:startS fd args hp ct=mkS fd.nt (ini args) hp ct:=by
  have:=start_mk {nt:=fd.nt,res:=fd.res,body:=.skip} args [] hn
  have h1:=congrArg St.tm this
  simp only[startS,mkS]
  congr 1
 rw[e]
 refine wpS_mono (inlC_good k) _ _ _ _ _ (fun ex s its q=>?_) h
 obtain ⟨σ',hp',ct',rfl,q⟩:=q
 have hr:(∃ rs,traverse (readRσ fd.nt σ' hp') fd.res=some rs∧Q rs hp' ct')→∃ rs,traverse (readRes (mkS fd.nt σ' hp' ct')) fd.res=some rs∧Q rs (mkS fd.nt σ' hp' ct').hp (mkS fd.nt σ' hp' ct').ct:=fun ⟨rs,e,q⟩=>⟨rs,by rw[← e];exact traverse_congr fun x _=>readRes_mk x,q⟩
 cases ex with
 |exit i=>exact q
 |normal=>exact hr q
 |ret=>exact hr q
end
end Go.Abs.Sh
namespace Go.Abs.Sh
def strsC(l:List (List UInt8)):List AC:=l.map fun s=>I (.str s)
def blkOf(e:Ent):Nat:=match e.val with
  |.c (.r (.sl b _ _ _ _))=>b
  |_=>0
def entS(pb:Nat→Prop)(hp:Heap)(e:Ent)(p:List UInt8×List (List UInt8)):Prop :=
  e.key=.c (I (.str p.1))∧∃ b g,e.val=.c (.r (.sl b g 0 1 p.2.length))∧pb b∧hp.get b=some (.cells g (strsC p.2))
structure mapS(pb:Nat→Prop)(hp:Heap)(b0 g:Nat)(es:List Ent)(clk:Nat)(m:List (List UInt8×List (List UInt8))):Prop where
  get:hp.get b0=some (.map g es clk)
  ents:All2 (entS pb hp) es m
  born:∀ e∈es,e.born<clk
  nodup:(es.map (·.born)).Nodup
  keys:(m.map Prod.fst).Nodup
  blks:(es.map blkOf).Nodup
theorem mapS.fr{pb:Nat→Prop}{hp hp':Heap}{b0 g clk:Nat}{es:List Ent}{m:List (List UInt8×List (List UInt8))}{P:List Nat}(h:mapS pb hp b0 g es clk m)(k:Fr P hp hp')(h0:P.contains b0=false)(hP:∀ b,pb b→P.contains b=false):mapS pb hp' b0 g es clk m :=
 ⟨(k b0 (by simpa using h0)).trans h.get,h.ents.mono fun e p ⟨h1,b,g,h2,h3,h4⟩=>⟨h1,b,g,h2,h3,(k b (by simpa using hP b h3)).trans h4⟩,h.born,h.nodup,h.keys,h.blks⟩
theorem findS{pb:Nat→Prop}{hp:Heap}{es:List Ent}{m:List (List UInt8×List (List UInt8))}(h:All2 (entS pb hp) es m)(x:List UInt8) :
  (mget m x=none∧findEnt (.c (I (.str x))) es=some none)∨∃ tos e,mget m x=some tos∧e∈es∧entS pb hp e (x,tos)∧findEnt (.c (I (.str x))) es=some (some e.val):=by
 induction h with
 |nil=>exact .inl ⟨rfl,rfl⟩
 |cons r _ ih =>
  rename_i e p l m' _;obtain ⟨a,b⟩:=p;have hk:findEnt (.c (I (.str x))) (e::l)=if x=a then some (some e.val) else findEnt (.c (I (.str x))) l:=by
   have:=(SK.str).eq x a
   simp only[findEnt,r.1];rw[show eqKey (.c (I (.str x))) (.c (I (.str a)))=some (decide (x=a)) from this];by_cases q:x=a<;>simp[q]
  rw[hk];by_cases q:x=a
  ·subst q
   right;exact ⟨b,e,by simp[mget],List.mem_cons_self ..,r,by simp⟩
  ·have q':¬ a=x:=fun t=>q t.symm
   rw[if_neg q];simp only[mget,q',if_false];rcases ih with ⟨h1,h2⟩|⟨tos,e2,h1,h2,h3,h4⟩
   ·exact .inl ⟨h1,h2⟩
   ·exact .inr ⟨tos,e2,h1,List.mem_cons_of_mem _ h2,h3,h4⟩
def lkS(pb:Nat→Prop)(hp:Heap)(es:List Ent)(m:List (List UInt8×List (List UInt8)))(x:List UInt8)(a:AC):Prop :=
  (mget m x=none∧a=I .nilS∧findEnt (.c (I (.str x))) es=some none)∨∃ tos b g,mget m x=some tos∧a=.r (.sl b g 0 1 tos.length)∧pb b∧hp.get b=some (.cells g (strsC tos))∧findEnt (.c (I (.str x))) es=some (some (.c a))∧∃ e∈es,e.key=.c (I (.str x))∧e.val=.c a
theorem strs_rows(f:Bool):∀ l:List (List UInt8),rows Rep.str f (l.map .str) l
 |[]=>rfl
 |x::l=>⟨[.str x],l.map .str,rfl,rfl,strs_rows f l⟩
theorem so_strs{hp:Heap}{b g:Nat}{l:List (List UInt8)}(h:hp.get b=some (.cells g (strsC l))):so [b] Rep.str true hp (.r (.sl b g 0 1 l.length)) l:=by
 refine .inr (.inr ⟨b,g,0,l.map .str,l.map .str,by simp,rfl,?_,strs_rows true l,by simp[Rep.str],?_⟩)
 ·simp[Heap.row,h,strsC,List.map_map]
 ·simp only[Rep.str,Nat.mul_one,List.drop_zero]
  exact List.take_of_length_le (by simp)
theorem lkS.so{pb:Nat→Prop}{hp:Heap}{es:List Ent}{m:List (List UInt8×List (List UInt8))}{x:List UInt8}{a:AC}(h:lkS pb hp es m x a):∃ P,so P Rep.str true hp a ((mget m x).getD [])∧∀ b∈P,pb b:=by
 rcases h with ⟨h1,rfl,_⟩|⟨tos,b,g,h1,rfl,h2,h3,_⟩
 ·exact ⟨[],by rw[h1];exact so_nil _ _ _ _,by simp⟩
 ·exact ⟨[b],by rw[h1];exact so_strs h3,by simpa using h2⟩
section
variable {nt:Nat} {σ:Sl} {hp:Heap} {ct d:Nat} {G:Nat→List IV} {R:Run} {Q:Sl→Heap→Nat→Prop} {l:List Ins} {x ko vo:Opd}
theorem k_lkpS{pb:Nat→Prop}{b0 g clk:Nat}{es:List Ent}{m:List (List UInt8×List (List UInt8))}{key:List UInt8}(hx:evσ nt σ x=.v (.c (.r (.map b0 g))))(hm:mapS pb hp b0 g es clk m)(hk:evσ nt σ ko=V (.str key))
  (nx:∀ a,lkS pb hp es m key a→wpL G R nt l Q (upd σ d (.v (.c a))) hp ct):wpL G R nt (.op (some d) none (.lkp 1 [.nilS] false false x ko)::l) Q σ hp ct:=by
 have hp1:=(SK.str).plain key;have hp2:plainKey 1 (V (.str key))=some (.c (I (.str key))):=hp1;rcases findS hm.ents key with ⟨h1,h2⟩|⟨tos,e,h1,h2,⟨h3,b,g',h4,h5,h6⟩,h7⟩
 ·refine k_op (v:=V .nilS) (hp':=hp) (ct':=ct) ?_ (nx _ (.inl ⟨h1,rfl,h2⟩))
  simp only[opK,step,ev_mk,hx,hk,hp2,mkS_hp,mkS_ct,mapAt_of hm.get,h2];simp[mk1,V]
 ·rw[h4] at h7
  refine k_op (v:=.v (.c (.r (.sl b g' 0 1 tos.length)))) (hp':=hp) (ct':=ct) ?_ (nx _ (.inr ⟨tos,b,g',h1,rfl,h5,h6,h7,e,h2,h3,h4⟩));simp only[opK,step,ev_mk,hx,hk,hp2,mkS_hp,mkS_ct,mapAt_of hm.get,h7];simp
theorem k_appN{y:Opd}{w:List UInt8}(hx:evσ nt σ x=V .nilS)(hy:evσ nt σ y=V (.lit 0 [.str w] 1))
  (nx:wpL G R nt l Q (upd σ d (.v (.c (.r (.sl d ct 0 1 1))))) (hp.set d (.cells ct [I (.str w)])) (ct+1)):wpL G R nt (.op (some d) none (.app 1 16 false x y)::l) Q σ hp ct:=by
 refine k_op ?_ nx;simp only[opK,step,ev_mk,hx,hy,V,isStrC,slCells,mkS_hp,mkS_ct];simp
theorem k_appD{y:Opd}{w:List UInt8}{b g:Nat}{cs:List AC}(hx:evσ nt σ x=.v (.c (.r (.sl b g 0 1 cs.length))))(hb:hp.get b=some (.cells g cs))(hl:cs.length≤1000000000)(hy:evσ nt σ y=V (.lit 0 [.str w] 1))
  (nx:wpL G R nt l Q (upd σ d (.v (.c (.r (.sl b ct 0 1 (cs.length+1)))))) (hp.set b (.cells ct (cs++[I (.str w)]))) (ct+1)):wpL G R nt (.op (some d) none (.app 1 16 false x y)::l) Q σ hp ct:=by
 refine k_op ?_ nx;have hr:hp.row b g=some cs:=by simp[Heap.row,hb]
 have e1:(cs.length+1)*16≤17592186044416:=by omega
 have e2:cs.length+1≤17592186044416:=by omega
 simp only[opK,step,ev_mk,hx,hy,V,isStrC,slCells,mkS_hp,mkS_ct,hr];simp[e1,e2]
theorem k_mupdA{b0 g clk:Nat}{es:List Ent}{key:List UInt8}{val:A1}(hx:evσ nt σ x=.v (.c (.r (.map b0 g))))(hb:hp.get b0=some (.map g es clk))(hk:evσ nt σ ko=V (.str key))(hv:evσ nt σ vo=.v val)
  {r:Option A1} (hf:findEnt (.c (I (.str key))) es=some r)
  (nx:wpL G R nt l Q σ (hp.set b0 (match r with|none=>.map g (es++[⟨.c (I (.str key)),val,clk⟩]) (clk+1)|some _=>.map g (setEnt (.c (I (.str key))) val es) clk)) ct):wpL G R nt (.op none none (.mupd 1 x ko vo)::l) Q σ hp ct:=by
 have hp1:=(SK.str).plain key;have hp2:plainKey 1 (V (.str key))=some (.c (I (.str key))):=hp1;have e3:ev (mkS nt σ hp ct) vo=.v val:=by rw[ev_mk,hv]
 cases r with
 |none =>
  refine k_op (dd:=none) (ct':=ct) (v:=.und) ?_ nx;simp only[opK,step,ev_mk,hx,hk,hp2,mkS_hp,mkS_ct,mapAt_of hb,hf,hv]
 |some w =>
  refine k_op (dd:=none) (ct':=ct) (v:=.und) ?_ nx;simp only[opK,step,ev_mk,hx,hk,hp2,mkS_hp,mkS_ct,mapAt_of hb,hf,hv]
theorem k_frzI{t:Nat}{v:IV}(hx:(mkS nt σ hp ct).get t=V v)(n:wpL G R nt l Q (upd σ t (V v)) hp ct):wpL G R nt (.frz t::l) Q σ hp ct:=by
 simp only[wpL];refine ⟨upd σ t (V v),hp,ct,?_,n⟩;simp only[insI,hx,V,A1.cells,List.flatMap_cons,List.flatMap_nil,refC,refR,List.append_nil,mkS_hp];have hd:refDeep hp 3 []=[]:=rfl;simp only[hd,List.filter_nil,delAll];have hrd:traverse (rd (fun b=>([]:List Nat).contains b) hp 0 rdDepth) [.r (.i v)]=some [v]:=by
  simp[traverse,rdDepth,rd]
 simp only[hrd];exact congrArg some (set_mk t _ _)
end
theorem newB_le(h:Heap):∀ b x,(b,x)∈h→b<newB h:=by
 have key:∀ (l:Heap) (n:Nat),n≤l.foldl (fun a p=>max a p.1) n∧∀ b x,(b,x)∈l→b≤l.foldl (fun a p=>max a p.1) n:=by
  intro l;induction l with
  |nil=>intro n;exact ⟨Nat.le_refl _,fun b x h=>by simp at h⟩
  |cons p l ih =>
   intro n;obtain ⟨h1,h2⟩:=ih (max n p.1);refine ⟨Nat.le_trans (Nat.le_max_left n p.1) h1,fun b x hb=>?_⟩;rcases List.mem_cons.1 hb with q|q
   ·have:b=p.1:=by rw[← q]
    rw[this];exact Nat.le_trans (Nat.le_max_right n p.1) h1
   ·exact h2 b x q
 intro b x hb;exact Nat.lt_succ_of_le ((key h 1000).2 b x hb)
theorem newB_big(h:Heap):1000<newB h:=by
 have key:∀ (l:Heap) (n:Nat),n≤l.foldl (fun a p=>max a p.1) n:=by
  intro l;induction l with
  |nil=>intro n;exact Nat.le_refl _
  |cons p l ih=>intro n;exact Nat.le_trans (Nat.le_max_left n p.1) (ih _)
 exact Nat.lt_succ_of_le (key h 1000)
theorem get_mem{h:Heap}{b:Nat}{x:Blk}(e:h.get b=some x):(b,x)∈h:=by
 induction h with
 |nil=>simp[Heap.get] at e
 |cons p h ih =>
  obtain ⟨k,y⟩:=p;simp only[Heap.get] at e;split at e
  ·rename_i q
   subst q;obtain rfl:=Option.some.inj e;exact List.mem_cons_self ..
  ·exact List.mem_cons_of_mem _ (ih e)
theorem newB_ne{h:Heap}{b:Nat}{x:Blk}(e:h.get b=some x):b≠newB h:=fun q=>by
 have:=newB_le h b x (get_mem e)
 omega
theorem strsC_ren(b g c g':Nat)(l:List (List UInt8)):(strsC l).map (renC b g c g')=strsC l:=by
 unfold strsC;rw[List.map_map];rfl
def renE(b g c g':Nat)(e:Ent):Ent:={key:=ren1 b g c g' e.key,val:=ren1 b g c g' e.val,born:=e.born}
theorem mapS.ren{hp:Heap}{b0 g clk ct bx:Nat}{es:List Ent}{m:List (List UInt8×List (List UInt8))}{x:Blk}(h:mapS (fun b=>1000<b∨b=bx) hp b0 g es clk m)(hx:hp.get bx=some x)(h0:b0≠bx)(hbx:bx≤1000)(h00:b0≤1000) :
  mapS (fun b=>1000<b) (((renH bx x.gen (newB hp) ct hp).del bx).set (newB hp) (reGen ct (renB bx x.gen (newB hp) ct x))) b0 g (es.map (renE bx x.gen (newB hp) ct)) clk m:=by
 have hbig:=newB_big hp;have hget:∀ q,(((renH bx x.gen (newB hp) ct hp).del bx).set (newB hp) (reGen ct (renB bx x.gen (newB hp) ct x))).get q=if q=newB hp then some (reGen ct (renB bx x.gen (newB hp) ct x)) else if q=bx then none else (hp.get q).map (renB bx x.gen (newB hp) ct):=fun q=>by
  simp only[Heap.get_set,Heap.get_del,get_renH]
 have hblk:∀ e∈es,∃ b g n,e.val=.c (.r (.sl b g 0 1 n))∧(hp.get b).isSome=true∧(b=bx→g=x.gen):=fun e he=>by
  obtain ⟨j,hj,rfl⟩:=List.getElem_of_mem he;have hl:=h.ents.length;obtain ⟨p,_,_,b,g,h2,_,h4⟩:=h.ents.get j es[j] (by simp[hj]);refine ⟨b,g,_,h2,by rw[h4];rfl,?_⟩;rintro rfl;rw[hx] at h4;obtain rfl:=Option.some.inj h4;rfl
 have hren:∀ e∈es,blkOf (renE bx x.gen (newB hp) ct e)=if blkOf e=bx then newB hp else blkOf e:=fun e he=>by
  obtain ⟨b,g,n,h2,_,h4⟩:=hblk e he;simp only[renE,blkOf,h2,ren1,renC,renR];by_cases q:b=bx
  ·have:=h4 q
   simp[q,this]
  ·simp[q]
 refine ⟨?_,?_,fun e he=>?_,?_,h.keys,?_⟩
 ·rw[hget,if_neg (newB_ne h.get),if_neg h0,h.get]
  rfl
 ·refine h.ents.map _ fun e p ⟨h1,b,g1,h2,h3,h4⟩=>?_
  by_cases q:b=bx
  ·subst q
   rw[hx] at h4;obtain rfl:=Option.some.inj h4;refine ⟨by simp only[renE,h1];rfl,newB hp,ct,?_,hbig,?_⟩
   ·simp only[renE,h2,ren1,renC,renR,Blk.gen,and_self,if_true]
   ·rw[hget,if_pos rfl]
    simp only[renB,reGen,strsC_ren]
  ·refine ⟨by simp only[renE,h1];rfl,b,g1,?_,?_,?_⟩
   ·simp only[renE,h2,ren1,renC,renR,q,false_and,if_false]
   ·rcases h3 with h3|h3
    ·exact h3
    ·exact absurd h3 q
   ·rw[hget,if_neg (newB_ne h4),if_neg q,h4]
    simp only[Option.map_some,renB,strsC_ren]
 ·obtain ⟨e0,he0,rfl⟩:=List.mem_map.1 he
  exact h.born e0 he0
 ·rw[List.map_map]
  exact h.nodup
 ·have e:(es.map (renE bx x.gen (newB hp) ct)).map blkOf=(es.map blkOf).map fun b=>if b=bx then newB hp else b:=by
   rw[List.map_map,List.map_map];exact List.map_congr_left fun e he=>hren e he
  rw[e];refine List.pairwise_map.2 (List.Pairwise.imp_of_mem ?_ h.blks);intro a b ha hb hab;have fresh:∀ q∈es.map blkOf,q≠newB hp:=fun q hq=>by
   obtain ⟨e,he,rfl⟩:=List.mem_map.1 hq;obtain ⟨b,g,n,h2,h3,_⟩:=hblk e he;obtain ⟨y,hy⟩:=Option.isSome_iff_exists.1 h3;simp only[blkOf,h2];exact newB_ne hy
  have f1:=fresh a ha;have f2:=fresh b hb;split
  ·rename_i q1
   split
   ·rename_i q2;exact absurd (q1.trans q2.symm) hab
   ·exact fun t=>f2 t.symm
  ·split
   ·exact f1
   ·exact hab
theorem All2.mono_mem{α β:Type}{R S:α→β→Prop}{l:List α}{m:List β}(h:All2 R l m)(f:∀ a b,a∈l→b∈m→R a b→S a b):All2 S l m:=by
 induction h with
 |nil=>exact .nil
 |cons h _ ih=>exact .cons (f _ _ (List.mem_cons_self ..) (List.mem_cons_self ..) h) (ih fun a b ha hb=>f a b (List.mem_cons_of_mem _ ha) (List.mem_cons_of_mem _ hb))
theorem setEnt_blk{key:A1}{a:AC}{es:List Ent}{b g n:Nat}(ha:a=.r (.sl b g 0 1 n))(hb:∀ e∈es,eqKey key e.key=some true→blkOf e=b):(setEnt key (.c a) es).map blkOf=es.map blkOf:=by
 induction es with
 |nil=>rfl
 |cons e es ih =>
  have ih:=ih fun e he=>hb e (List.mem_cons_of_mem _ he);simp only[setEnt];split
  ·rename_i q
   have:=hb e (List.mem_cons_self ..) q
   simp only[List.map_cons,this];simp[blkOf,ha]
  ·simp only[List.map_cons,ih]
theorem mapS.add{hp:Heap}{b0 g clk ct bx:Nat}{es:List Ent}{m:List (List UInt8×List (List UInt8))}{key w:List UInt8}(h:mapS (fun b=>1000<b) hp b0 g es clk m)(hg:mget m key=none)(h0:b0≠bx)(hbx:bx≤1000)(h00:b0≤1000) :
  mapS (fun b=>1000<b∨b=bx) ((hp.set bx (.cells ct [I (.str w)])).set b0 (.map g (es++[⟨.c (I (.str key)),.c (.r (.sl bx ct 0 1 1)),clk⟩]) (clk+1))) b0 g (es++[⟨.c (I (.str key)),.c (.r (.sl bx ct 0 1 1)),clk⟩]) (clk+1) (mput m key [w]):=by
 refine ⟨by rw[Heap.get_set,if_pos rfl],?_,fun e he=>?_,?_,mput_fst h.keys,?_⟩
 ·rw[mput_new hg]
  refine All2.append (h.ents.mono fun e p ⟨h1,b,g,h2,h3,h4⟩=>⟨h1,b,g,h2,.inl h3,?_⟩) (.cons ⟨rfl,bx,ct,rfl,.inr rfl,?_⟩ .nil)
  ·rw[Heap.get_set,if_neg (by omega),Heap.get_set,if_neg (by omega)];exact h4
  ·rw[Heap.get_set,if_neg (fun e=>h0 e.symm),Heap.get_set,if_pos rfl];rfl
 ·rcases List.mem_append.1 he with he|he
  ·have:=h.born e he;omega
  ·simp at he;subst he;exact Nat.lt_succ_self _
 ·rw[List.map_append,List.nodup_append]
  refine ⟨h.nodup,by simp,fun p hp q hq=>?_⟩;obtain ⟨e,he,rfl⟩:=List.mem_map.1 hp;simp at hq;subst hq
  have:=h.born e he
  omega
 ·rw[List.map_append,List.nodup_append]
  refine ⟨h.blks,by simp,fun p hp q hq=>?_⟩;obtain ⟨e,he,rfl⟩:=List.mem_map.1 hp;simp[blkOf] at hq;subst hq;obtain ⟨j,hj,rfl⟩:=List.getElem_of_mem he;obtain ⟨p,_,_,b,g2,h2,h3,_⟩:=h.ents.get j es[j] (by simp[hj]);simp only[blkOf,h2];omega
theorem ents_set{hp hp':Heap}{key w:List UInt8}{b gn:Nat}{tos:List (List UInt8)}(hfr:∀ q,1000<q→q≠b→hp'.get q=hp.get q)(hb:1000<b)(hnew:hp'.get b=some (.cells gn (strsC (tos++[w])))):∀ {es:List Ent} {m:List (List UInt8×List (List UInt8))},All2 (entS (fun b=>1000<b) hp) es m→(es.map blkOf).Nodup→(m.map Prod.fst).Nodup→(∃ e∈es,e.key=.c (I (.str key))∧blkOf e=b)→mget m key=some tos →
  All2 (entS (fun b=>1000<b) hp') (setEnt (.c (I (.str key))) (.c (.r (.sl b gn 0 1 (tos.length+1)))) es) (mput m key (tos++[w]))
 |_,_,.nil,_,_,h,_=>by obtain ⟨e,he,_⟩:=h;simp at he
 |_,_,.cons (a:=e) (b:=p) (l:=es) (m:=m) r t,hn,hk,h,hg=>by
  obtain ⟨x,xs⟩:=p
  obtain ⟨r1,b2,g2,r2,r3,r4⟩:=r
  have hblk:blkOf e=b2:=by simp[blkOf,r2]
  have hkey:eqKey (.c (I (.str key))) e.key=some (decide (key=x)):=by rw[r1];exact (SK.str).eq key x
  simp only[List.map_cons,List.nodup_cons] at hn hk
  by_cases q:key=x
  ·subst q
   have hb2:b2=b:=by
    obtain ⟨e2,he2,h1,h2⟩:=h
    rcases List.mem_cons.1 he2 with q|q
    ·rw[← hblk,← q];exact h2
    ·exfalso
     obtain ⟨j,hj,rfl⟩:=List.getElem_of_mem q
     have hl:=t.length
     obtain ⟨p2,hp2,hr1,_⟩:=t.get j es[j] (by simp[hj])
     have hs:p2.1=key:=by
      rw[h1] at hr1
      have:IV.str key=.str p2.1:=by simpa using hr1
      injection this with this
      exact this.symm
     exact hk.1 (List.mem_map.2 ⟨p2,List.mem_of_getElem? hp2,hs⟩)
   subst hb2
   simp only[setEnt,hkey,decide_true,mput,if_true]
   refine .cons ⟨rfl,b2,gn,by simp,hb,hnew⟩ (All2.mono_mem t fun e2 p2 he2 hp2 ⟨h1,b3,g3,h2,h3,h4⟩=>⟨h1,b3,g3,h2,h3,?_⟩)
   have hne:b3≠b2:=fun t=>hn.1 (by rw[hblk];exact List.mem_map.2 ⟨e2,he2,by simp[blkOf,h2,t]⟩)
   rw[hfr b3 h3 hne]
   exact h4
  ·have q':¬ x=key:=fun t=>q t.symm
   simp only[mget,q',if_false] at hg
   simp only[setEnt,hkey,q,decide_false,mput,q',if_false]
   have hin:∃ e∈es,e.key=.c (I (.str key))∧blkOf e=b:=by
    obtain ⟨e2,he2,h1,h2⟩:=h
    rcases List.mem_cons.1 he2 with t2|t2
    ·exfalso
     rw[← t2,h1] at r1
     have:IV.str key=.str x:=by simpa using r1
     injection this with this
     exact q this
    ·exact ⟨e2,t2,h1,h2⟩
   have hne:b2≠b:=fun t=>by
    obtain ⟨e2,he2,_,h2⟩:=hin
    exact hn.1 (List.mem_map.2 ⟨e2,he2,by rw[h2,hblk,t]⟩)
   exact .cons ⟨r1,b2,g2,r2,r3,by rw[hfr b2 r3 hne];exact r4⟩ (ents_set hfr hb hnew t hn.2 hk.2 hin hg)
theorem mapS.upd{hp:Heap}{b0 g clk ct b g2:Nat}{es:List Ent}{m:List (List UInt8×List (List UInt8))}{key w:List UInt8}{tos:List (List UInt8)}(h:mapS (fun b=>1000<b) hp b0 g es clk m)(hg:mget m key=some tos)(hb:1000<b)(h00:b0≤1000)(he:∃ e∈es,e.key=.c (I (.str key))∧e.val=.c (.r (.sl b g2 0 1 tos.length))) :
  mapS (fun b=>1000<b) ((hp.set b (.cells ct (strsC tos++[I (.str w)]))).set b0 (.map g (setEnt (.c (I (.str key))) (.c (.r (.sl b ct 0 1 (tos.length+1)))) es) clk)) b0 g (setEnt (.c (I (.str key))) (.c (.r (.sl b ct 0 1 (tos.length+1)))) es) clk (mput m key (tos++[w])):=by
 obtain ⟨e,h1,h2,h3⟩:=he;have hbl:blkOf e=b:=by simp[blkOf,h3]
 have hone:∀ e'∈es,eqKey (.c (I (.str key))) e'.key=some true→blkOf e'=b:=fun e' he' hk=>by
  have huniq:e'=e:=by
   obtain ⟨i,hi,rfl⟩:=List.getElem_of_mem he';obtain ⟨j,hj,rfl⟩:=List.getElem_of_mem h1;have hl:=h.ents.length;obtain ⟨p,hp1,hp2,_⟩:=h.ents.get i es[i] (by simp[hi]);obtain ⟨p',hp1',hp2',_⟩:=h.ents.get j es[j] (by simp[hj]);have e1:p.1=key:=by
    rw[hp2] at hk
    have:=(SK.str).eq key p.1
    rw[show eqKey (.c (I (.str key))) (.c (I (.str p.1)))=some (decide (key=p.1)) from this] at hk;simpa using (by simpa using hk:key=p.1).symm
   have e2:p'.1=key:=by
    rw[h2] at hp2';have:IV.str key=.str p'.1:=by simpa using hp2'
    injection this with this;exact this.symm
   have hij:i=j:=by
    have hi':i<m.length:=by omega
    have hj':j<m.length:=by omega
    obtain ⟨_,hpi⟩:=List.getElem?_eq_some_iff.1 hp1;obtain ⟨_,hpj⟩:=List.getElem?_eq_some_iff.1 hp1';rcases Nat.lt_trichotomy i j with q|q|q
    ·have w:=List.pairwise_iff_getElem.1 h.keys i j (by simpa using hi') (by simpa using hj') q
     simp only[List.getElem_map,hpi,hpj,e1,e2] at w;exact absurd rfl w
    ·exact q
    ·have w:=List.pairwise_iff_getElem.1 h.keys j i (by simpa using hj') (by simpa using hi') q
     simp only[List.getElem_map,hpi,hpj,e1,e2] at w;exact absurd rfl w
   subst hij;rfl
  rw[huniq];exact hbl
 refine ⟨by rw[Heap.get_set,if_pos rfl],?_,fun e' he'=>?_,by rw[setEnt_born];exact h.nodup,mput_fst h.keys,by rw[setEnt_blk rfl hone];exact h.blks⟩
 ·refine ents_set (fun q h1 h2=>by rw[Heap.get_set,if_neg (by omega),Heap.get_set,if_neg h2]) hb ?_ h.ents h.blks h.keys ⟨e,h1,h2,hbl⟩ hg
  rw[Heap.get_set,if_neg (by omega),Heap.get_set,if_pos rfl];simp[strsC]
 ·have:e'.born∈(setEnt (.c (I (.str key))) (.c (.r (.sl b ct 0 1 (tos.length+1)))) es).map (·.born):=List.mem_map_of_mem he'
  rw[setEnt_born] at this;obtain ⟨e2,he2,hb2⟩:=List.mem_map.1 this
  have:=h.born e2 he2
  omega
end Go.Abs.Sh
