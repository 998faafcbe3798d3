/-
  Dial plans: what is drawn; ranges of digits, as they are written.
-/
import Derived.Test.YtameabpbghichaaGreatDoorHM4Aa
import Derived.Test.YtameabpbghichaaGreatDoorHM4Absc
import Derived.KernelRfl
namespace Go.Proofs.YtameabpbghichaaGreatDoor
open Go Go.Abs
set_option maxRecDepth 100000
set_option maxHeartbeats 1000000
theorem below_is(x n:Int)(h1:1≤n)(h2:n≤4611686018427387904):uF80 x n=some (x % n):=by
 have hn:¬ n<1:=by omega
 have hn0:n≠0:=by omega
 have hlt:x.tmod n<n:=Int.tmod_lt_of_pos _ (by omega);have hgt : -n<x.tmod n:=by
  have:=Int.tmod_lt_of_pos (-x) (b:=n) (by omega)
  rw[Int.neg_tmod] at this;omega
 rw[emod_tmod x n h1];by_cases h:x.tmod n<0
 ·simp (disch:=omega) [uF80,hn,grem,hn0,h,bnd,w64]
 ·simp[uF80,hn,grem,hn0,h,bnd]
def SOk(s:uT1)(k:Int):Prop:=s.L.length≤4611686018427387904∧0≤s.at_∧s.at_≤k
theorem next_is(s:uT1)(n k:Int)(hs:SOk s k)(hk:k≤4611686018427387904)(h1:1≤n)(h2:n≤4611686018427387904) :
  ∃ r,uF31 s n=some (⟨s.L,s.at_+1⟩,r)∧0≤r∧r<n:=by
 obtain ⟨hl,ha,hb⟩:=hs;have e1:IntKind.wrap .i64 (s.at_+1)=s.at_+1:=w64 (by omega) (by omega);have hm:∀ x:Int,0≤x % n∧x % n<n:=fun x=>⟨Int.emod_nonneg _ (by omega),Int.emod_lt_of_pos _ (by omega)⟩;unfold uF31;rw[e1];by_cases h0:s.L.length=0
 ·have hz:(s.L.length:Int)=0:=by omega
  simp[hz,below_is _ _ h1 h2];exact hm _
 ·have hz:¬ ((s.L.length:Int)=0):=by omega
  have e2:IntKind.wrap .i64 (s.at_+1-1)=s.at_:=by rw[w64]<;>omega
  have hi:0≤s.at_.tmod s.L.length∧s.at_.tmod s.L.length<s.L.length:=⟨Int.tmod_nonneg _ ha,Int.tmod_lt_of_pos _ (by omega)⟩;obtain ⟨x,hx,_⟩:=idx_of hi.1 hi.2;rw[e2];have hne:s.L≠[]:=by rintro q;simp[q] at h0
  have hb:((s.L.length:Int)==0)=false:=by simp[hne]
  simp[hb,hne,grem,gquo,hx,below_is _ _ h1 h2,below_is _ 1073741824 (by omega) (by omega)];exact hm _
theorem range_is(s:uT1)(lo hi k:Int)(hs:SOk s k)(hk:k≤4611686018427387904)(h1:lo≤hi)(h2 : -1000000000000≤lo)(h3:hi≤1000000000000) :
  ∃ r,uF46 s lo hi=some (⟨s.L,s.at_+1⟩,r)∧lo≤r∧r≤hi:=by
 obtain ⟨r,e,r1,r2⟩:=next_is s (hi-lo+1) k hs hk (by omega) (by omega);have hlt:¬ hi<lo:=by omega
 refine ⟨lo+r,?_,by omega,by omega⟩;simp (disch:=omega) [uF46,hlt,w64,e,bnd]
theorem SOk.up{s:uT1}{k m:Int}(h:SOk s k)(e:k≤m):SOk s m:=⟨h.1,h.2.1,Int.le_trans h.2.2 e⟩
theorem SOk.one{s:uT1}{k:Int}(h:SOk s k):SOk ⟨s.L,s.at_+1⟩ (k+1):=by
 obtain ⟨a,b,c⟩:=h;exact ⟨a,by (try simp only[]);omega,by (try simp only[]);omega⟩
theorem some_in(s:uT1)(l:List (List UInt8))(k:Int)(hs:SOk s k)(hk:k≤1000000)(hl:0<l.length)(hl2:l.length≤1000):∃ r,uF6 s l=some (⟨s.L,s.at_+1⟩,r)∧r∈l:=by
 obtain ⟨r,e,r1,r2⟩:=next_is s l.length k hs (by omega) (by omega) (by omega);obtain ⟨x,hx,hm⟩:=idx_of r1 r2;exact ⟨x,by simp[uF6,e,hx,bnd],hm⟩
def els:List (List UInt8):=[[49],[50],[57],[48],[42],[88],[78],[90],[91,49,50,93],[91,50,45,52,93],[91,49,45,51,53,93],[91,50,57,93]]
def EL(e:Nat):List UInt8:=els.getD e []
def mks:List Int:=[8,16,2048,4,2,4092,4080,4088,24,112,184,2064]
def MK(e:Nat):Int:=mks.getD e 0
def sgs:List UInt8:=[35,42,48,49,50,51,52,53,54,55,56,57]
def SG(b:Nat):UInt8:=sgs.getD b 0
def cat(es:List Nat):List UInt8:=es.flatMap EL
def tst(t:Nat):List UInt8:=if t=0 then [] else if t=1 then [46] else [33]
def tby(t:Nat):Int:=if t=0 then 0 else if t=1 then 46 else 33
def PGood(p:List UInt8)(es:List Nat)(t:Nat):Prop:=p=cat es++tst t∧1≤es.length∧es.length≤4∧(∀ e∈es,e<12)∧t<3
theorem EL_len{e:Nat}(h:e<12):1≤(EL e).length∧(EL e).length≤6:=by
 rcases (by omega:e=0∨e=1∨e=2∨e=3∨e=4∨e=5∨e=6∨e=7∨e=8∨e=9∨e=10∨e=11) with rfl|rfl|rfl|rfl|rfl|rfl|rfl|rfl|rfl|rfl|rfl|rfl<;>decide
theorem cat_len:∀ (es:List Nat),(∀ e∈es,e<12)→(cat es).length≤6*es.length
 |[],_=>by simp[cat]
 |e::es,h=>by
  have h1:=EL_len (h e (by simp))
  have h2:=cat_len es fun x hx=>h x (List.mem_cons_of_mem _ hx)
  simp only[cat,List.flatMap_cons,List.length_append,List.length_cons] at h2 ⊢
  omega
theorem cat_add(es:List Nat)(e:Nat):cat (es++[e])=cat es++EL e:=by simp[cat]
theorem sadd_of{a b:List UInt8}(h:a.length+b.length≤1000):sadd a b=some (a++b):=by
 unfold sadd;rw[if_pos (by omega)]
theorem pattern_is(s0:uT1)(k:Int)(hs:SOk s0 k)(hk:k≤1000):∃ s' p es t,uF101 s0=some (s',p)∧PGood p es t∧SOk s' (k+6):=by
 obtain ⟨m,e1,m1,m2⟩:=range_is s0 1 4 _ hs (by omega) (by omega) (by omega) (by omega);obtain ⟨e,h1,⟨es,h2,h3,h4,h5⟩,h6⟩:=loopO_ind (step:=fun s:List UInt8×Int×uT1=>uF101a (⟨s0.L,s0.at_+1⟩,m) s.1 s.2.1 s.2.2)
  (fun q=>0≤q.2.1∧q.2.1≤m∧(∃ es:List Nat,q.1=cat es∧(es.length:Int)=q.2.1∧∀ e∈es,e<12)∧SOk q.2.2 (k+1+q.2.1))
  (fun e=>(∃ es:List Nat,e.1=cat es∧1≤es.length∧es.length≤4∧∀ e∈es,e<12)∧SOk e.2 (k+5)) (fun q=>(4-q.2.1).toNat) (fun q hq=>by
   obtain ⟨l,n,s⟩:=q;obtain ⟨q0,q1,⟨es,rfl,q2,q3⟩,q4⟩:=hq;simp only[] at q0 q1 q2 q3 q4;simp only[uF101a];by_cases hlt:n<m
   ·obtain ⟨r,f1,r1⟩:=some_in s [[49],[50],[50],[57],[48],[42],[88],[88],[78],[90],[91,49,50,93],[91,50,45,52,93],[91,49,45,51,53,93],[91,50,57,93]] _ q4 (by omega) (by simp) (by simp)
    obtain ⟨e,he,rfl⟩:∃ e,e<12∧r=EL e:=by
     simp only[List.mem_cons,List.not_mem_nil,or_false] at r1;rcases r1 with rfl|rfl|rfl|rfl|rfl|rfl|rfl|rfl|rfl|rfl|rfl|rfl|rfl|rfl
     ·exact ⟨0,by omega,rfl⟩
     ·exact ⟨1,by omega,rfl⟩
     ·exact ⟨1,by omega,rfl⟩
     ·exact ⟨2,by omega,rfl⟩
     ·exact ⟨3,by omega,rfl⟩
     ·exact ⟨4,by omega,rfl⟩
     ·exact ⟨5,by omega,rfl⟩
     ·exact ⟨5,by omega,rfl⟩
     ·exact ⟨6,by omega,rfl⟩
     ·exact ⟨7,by omega,rfl⟩
     ·exact ⟨8,by omega,rfl⟩
     ·exact ⟨9,by omega,rfl⟩
     ·exact ⟨10,by omega,rfl⟩
     ·exact ⟨11,by omega,rfl⟩
    have hl:=cat_len es q3;have he2:=EL_len he;have hd:(decide (n<m))=true:=by simpa using hlt
    refine .inr ⟨(cat (es++[e]),n+1,⟨s.L,s.at_+1⟩),?_,⟨by (try simp only[]);omega,by (try simp only[]);omega,⟨es++[e],rfl,by simp;omega,fun x hx=>?_⟩,q4.one.up (by (try simp only[]);omega)⟩,by (try simp only[]);omega⟩
    ·rw[hd];simp only[cond_true,f1,Option.bind_some]
     rw[sadd_of (by omega),w64 (by omega) (by omega),cat_add];rfl
    ·rcases List.mem_append.1 hx with hx|hx
     ·exact q3 x hx
     ·simp at hx;omega
   ·exact .inl ⟨(cat es,s),by simp[hlt],⟨es,rfl,by omega,by omega,q3⟩,q4.up (by omega)⟩) ([],0,⟨s0.L,s0.at_+1⟩) ⟨by simp,by simp;omega,⟨[],rfl,by simp,by simp⟩,hs.one.up (by (try simp only[]);omega)⟩
 obtain ⟨l,s⟩:=e;simp only[] at h2 h6;subst h2;obtain ⟨r,f1,r1⟩:=some_in s [[],[],[],[46],[33]] _ h6 (by omega) (by simp) (by simp);obtain ⟨t,ht,rfl⟩:∃ t,t<3∧r=tst t:=by
  simp only[List.mem_cons,List.not_mem_nil,or_false] at r1;rcases r1 with rfl|rfl|rfl|rfl|rfl
  ·exact ⟨0,by omega,rfl⟩
  ·exact ⟨0,by omega,rfl⟩
  ·exact ⟨0,by omega,rfl⟩
  ·exact ⟨1,by omega,rfl⟩
  ·exact ⟨2,by omega,rfl⟩
 have hl:=cat_len es h5;have ht2:(tst t).length≤1:=by unfold tst;split<;>(try split)<;>simp
 refine ⟨⟨s.L,s.at_+1⟩,cat es++tst t,es,t,?_,⟨rfl,h3,h4,h5,ht⟩,h6.one.up (by (try simp only[]);omega)⟩;simp only[uF101,bnd,e1,Option.bind_some,h1,f1];rw[sadd_of (by omega)];rfl
theorem loop_twin{S E:Type}{f g:S→Option (S⊕E)}(h:∀ s r,g s=some r→f s=some r):∀ (n:Nat) (s:S) (e:E),loopF g n s=some e→loopO f s=some e:=by
 intro n;induction n with
 |zero=>intro s e he;simp[loopF] at he
 |succ n ih =>
  intro s e he;rw[loopO_eq];simp only[loopF] at he;cases hg:g s with
  |none=>rw[hg] at he;simp at he
  |some r =>
   rw[hg] at he;rw[h s r hg];cases r with
   |inl s'=>exact ih s' e he
   |inr x=>simpa using he
theorem from_is(a b v:Int)(h:loopF (fun s:Int×Int=>uF181a b s.1 s.2) 16 (0,a)=some v):uF181 a b=some v:=by
 simp only[uF181,loopO_of h,Option.bind_some]
theorem f09:uF181 48 57=some 4092:=from_is _ _ _ (by kernel_rfl)
theorem f19:uF181 49 57=some 4088:=from_is _ _ _ (by kernel_rfl)
theorem f29:uF181 50 57=some 4080:=from_is _ _ _ (by kernel_rfl)
theorem f11:uF181 49 49=some 8:=from_is _ _ _ (by kernel_rfl)
theorem f22:uF181 50 50=some 16:=from_is _ _ _ (by kernel_rfl)
theorem f24:uF181 50 52=some 112:=from_is _ _ _ (by kernel_rfl)
theorem f13:uF181 49 51=some 56:=from_is _ _ _ (by kernel_rfl)
theorem f55:uF181 53 53=some 128:=from_is _ _ _ (by kernel_rfl)
theorem f99:uF181 57 57=some 2048:=from_is _ _ _ (by kernel_rfl)
noncomputable def G171(x0:Int)(w12:List UInt8)(w13:Int):Option ((List UInt8×Int)⊕(List UInt8)):=bif (decide (w13≤(57:Int))) then ((uF183 w13).bind fun y22=>bif (((gand .u16 x0 y22))==(0:Int)) then (bnd ((IntKind.wrap .u8 (w13+(1:Int)))) fun u26=>some (.inl ((w12,u26)))) else ((loopF (fun s:Int=>uF208b x0 s) 12 w13).bind fun y74=>bnd ((decide (y74 > ((IntKind.wrap .u8 (w13+(1:Int))))))) fun u84=>(bif u84 then ((sadd w12 ((bytesStr (([w13,(45:Int),y74]:List Int))))).bind fun y99=>some y99) else (bnd ((decide (y74 > w13))) fun u101=>bif u101 then ((sadd w12 ((bytesStr (([w13,y74]:List Int))))).bind fun y105=>some y105) else ((sadd w12 ((bytesStr (([w13]:List Int))))).bind fun y108=>some y108))).bind fun y96=>bnd ((IntKind.wrap .u8 (y74+(1:Int)))) fun u118=>some (.inl ((y96,u118))))) else (some (.inr w12))
theorem bind_twin{A B:Type}{a b:Option A}{k:A→Option B}{r:B}(h:∀ e,a=some e→b=some e)(e:a.bind k=some r):b.bind k=some r:=by
 cases a with
 |none=>simp at e
 |some x=>rw[h x rfl];exact e
theorem g171_le(x0:Int)(w:List UInt8)(v:Int)(r:(List UInt8×Int)⊕(List UInt8))(h:G171 x0 w v=some r):uF208a x0 w v=some r:=by
 unfold G171 at h;unfold uF208a;cases hc:decide (v≤(57:Int)) with
 |false=>rw[hc] at h;exact h
 |true =>
  rw[hc] at h;simp only[cond_true] at h ⊢;cases h1:uF183 v with
  |none=>rw[h1] at h;simp at h
  |some y =>
   rw[h1] at h;simp only[Option.bind_some] at h ⊢;cases h2:(gand .u16 x0 y==(0:Int)) with
   |true=>rw[h2] at h;exact h
   |false =>
    rw[h2] at h;simp only[cond_false] at h ⊢;exact bind_twin (fun e he=>loopO_of he) h
theorem digits_is(m:Int)(v:List UInt8)(h:loopF (fun s:List UInt8×Int=>G171 m s.1 s.2) 16 ([],48)=some v):uF208 m=some v:=by
 have:=loop_twin (f:=fun s:List UInt8×Int=>uF208a m s.1 s.2) (fun s r hr=>g171_le m s.1 s.2 r hr) 16 ([],48) v h
 simp only[uF208,bnd,this,Option.bind_some]
theorem d24:uF208 24=some [49,50]:=digits_is _ _ (by kernel_rfl)
theorem d112:uF208 112=some [50,45,52]:=digits_is _ _ (by kernel_rfl)
theorem d184:uF208 184=some [49,45,51,53]:=digits_is _ _ (by kernel_rfl)
theorem d2064:uF208 2064=some [50,57]:=digits_is _ _ (by kernel_rfl)
theorem sub_pre{a r:List UInt8}:sub (a++r) 0 (a.length:Int)=some a:=by
 unfold sub;rw[if_pos ⟨by omega,by omega,by rw[List.length_append];omega⟩];simp
theorem sub_post{a r:List UInt8}:sub (a++r) (a.length:Int) ((a++r).length:Nat)=some r:=by
 unfold sub;rw[if_pos ⟨by omega,by rw[List.length_append];omega,by omega⟩];rw[Int.toNat_natCast,Int.toNat_natCast,List.take_length];simp
/- One element. -/
theorem rest_is(a:UInt8)(r:List UInt8):sub (a::r) 1 ((a::r).length:Nat)=some r:=sub_post (a:=[a])
theorem loop2{S E:Type}{f:S→Option (S⊕E)}{s s':S}(h:f s=some (.inl s')):loopO f s=loopO f s':=by rw[loopO_eq,h]
theorem loop3{S E:Type}{f:S→Option (S⊕E)}{s:S}{e:E}(h:f s=some (.inr e)):loopO f s=some e:=by rw[loopO_eq,h]
theorem set_end{x0:List UInt8}{y1 m:Int}{d:List UInt8}(h1:uF148 x0 93=some y1)(h0:(decide (y1<0))=false)
  (hl:loopO (fun s:Int×Int=>uF182 x0 y1 s.1 s.2) (0,0)=some (.inl m)) (h2:∃ c,uF207 m=some c∧(decide (c<2))=false)
  (h3:(m==4092)=false) (h4:(m==4088)=false) (h5:(m==4080)=false) (h6:uF208 m=some d) (h7:sub x0 0 y1=some d) (h8:IntKind.wrap .i64 (y1+1)=y1+1):uF182a x0=some (m,y1+1):=by
 obtain ⟨c,c1,c2⟩:=h2;simp only[uF182a,h1,Option.bind_some,h0,cond_false,hl,lret,c1,c2,f09,f19,f29,h3,h4,h5,h6,h7,bnd,h8,beq_self_eq_true,Bool.not_true]
theorem set24(r:List UInt8):uF182a (49::50::93::r)=some (24,3):=by
 have s1:uF182 (49::50::93::r) 2 0 0=(uF181 49 49).bind fun y=>some (.inl (gor .u16 0 y,1)):=by kernel_rfl
 have s2:uF182 (49::50::93::r) 2 8 1=(uF181 50 50).bind fun y=>some (.inl (gor .u16 8 y,2)):=by kernel_rfl
 have s3:uF182 (49::50::93::r) 2 24 2=some (.inr (.inl 24)):=by kernel_rfl
 rw[f11] at s1;rw[f22] at s2;have hl:loopO (fun s:Int×Int=>uF182 (49::50::93::r) 2 s.1 s.2) (0,0)=some (.inl 24) :=
  (loop2 (s':=(8,1)) (by exact s1.trans (by kernel_rfl))).trans ((loop2 (s':=(24,2)) (by exact s2.trans (by kernel_rfl))).trans (loop3 s3))
 exact set_end (y1:=2) (by kernel_rfl) (by decide) hl ⟨2,by kernel_rfl,by decide⟩ (by decide) (by decide) (by decide) d24 (sub_pre (a:=[49,50])) (by decide)
theorem set112(r:List UInt8):uF182a (50::45::52::93::r)=some (112,4):=by
 have s1:uF182 (50::45::52::93::r) 3 0 0=(uF181 50 52).bind fun y=>some (.inl (gor .u16 0 y,3)):=by kernel_rfl
 have s3:uF182 (50::45::52::93::r) 3 112 3=some (.inr (.inl 112)):=by kernel_rfl
 rw[f24] at s1;have hl:loopO (fun s:Int×Int=>uF182 (50::45::52::93::r) 3 s.1 s.2) (0,0)=some (.inl 112) :=
  (loop2 (s':=(112,3)) (by exact s1.trans (by kernel_rfl))).trans (loop3 s3)
 exact set_end (y1:=3) (by kernel_rfl) (by decide) hl ⟨3,by kernel_rfl,by decide⟩ (by decide) (by decide) (by decide) d112 (sub_pre (a:=[50,45,52])) (by decide)
theorem set184(r:List UInt8):uF182a (49::45::51::53::93::r)=some (184,5):=by
 have s1:uF182 (49::45::51::53::93::r) 4 0 0=(uF181 49 51).bind fun y=>some (.inl (gor .u16 0 y,3)):=by kernel_rfl
 have s2:uF182 (49::45::51::53::93::r) 4 56 3=(uF181 53 53).bind fun y=>some (.inl (gor .u16 56 y,4)):=by kernel_rfl
 have s3:uF182 (49::45::51::53::93::r) 4 184 4=some (.inr (.inl 184)):=by kernel_rfl
 rw[f13] at s1;rw[f55] at s2;have hl:loopO (fun s:Int×Int=>uF182 (49::45::51::53::93::r) 4 s.1 s.2) (0,0)=some (.inl 184) :=
  (loop2 (s':=(56,3)) (by exact s1.trans (by kernel_rfl))).trans ((loop2 (s':=(184,4)) (by exact s2.trans (by kernel_rfl))).trans (loop3 s3))
 exact set_end (y1:=4) (by kernel_rfl) (by decide) hl ⟨4,by kernel_rfl,by decide⟩ (by decide) (by decide) (by decide) d184 (sub_pre (a:=[49,45,51,53])) (by decide)
theorem set2064(r:List UInt8):uF182a (50::57::93::r)=some (2064,3):=by
 have s1:uF182 (50::57::93::r) 2 0 0=(uF181 50 50).bind fun y=>some (.inl (gor .u16 0 y,1)):=by kernel_rfl
 have s2:uF182 (50::57::93::r) 2 16 1=(uF181 57 57).bind fun y=>some (.inl (gor .u16 16 y,2)):=by kernel_rfl
 have s3:uF182 (50::57::93::r) 2 2064 2=some (.inr (.inl 2064)):=by kernel_rfl
 rw[f22] at s1;rw[f99] at s2;have hl:loopO (fun s:Int×Int=>uF182 (50::57::93::r) 2 s.1 s.2) (0,0)=some (.inl 2064) :=
  (loop2 (s':=(16,1)) (by exact s1.trans (by kernel_rfl))).trans ((loop2 (s':=(2064,2)) (by exact s2.trans (by kernel_rfl))).trans (loop3 s3))
 exact set_end (y1:=2) (by kernel_rfl) (by decide) hl ⟨2,by kernel_rfl,by decide⟩ (by decide) (by decide) (by decide) d2064 (sub_pre (a:=[50,57])) (by decide)
theorem elem_set{r:List UInt8}{m n:Int}(h:uF182a r=some (m,n))(hn:(n==0)=false)(hw:IntKind.wrap .i64 (n+1)=n+1):uF130 (91::r)=some (m,n+1):=by
 have e:uF130 (91::r)=(sub (91::r) 1 ((91::r:List UInt8).length:Nat)).bind fun y26=>(uF182a y26).bind fun y28=>bif (y28.2==(0:Int)) then (some (((0:Int),(0:Int)))) else (bnd ((IntKind.wrap .i64 (y28.2+(1:Int)))) fun u32=>some ((y28.1,u32))):=by kernel_rfl
 rw[e,rest_is];simp only[Option.bind_some,h,hn,cond_false,bnd,hw]
theorem elem_is{e:Nat}(he:e<12)(r:List UInt8):uF130 (EL e++r)=some (MK e,((EL e).length:Int)):=by
 rcases (by omega:e=0∨e=1∨e=2∨e=3∨e=4∨e=5∨e=6∨e=7∨e=8∨e=9∨e=10∨e=11) with rfl|rfl|rfl|rfl|rfl|rfl|rfl|rfl|rfl|rfl|rfl|rfl
 ·show uF130 (49::r)=some (8,1);kernel_rfl
 ·show uF130 (50::r)=some (16,1);kernel_rfl
 ·show uF130 (57::r)=some (2048,1);kernel_rfl
 ·show uF130 (48::r)=some (4,1);kernel_rfl
 ·show uF130 (42::r)=some (2,1);kernel_rfl
 ·have e:uF130 (88::r)=(uF181 48 57).bind fun y8=>some ((y8,(1:Int))):=by kernel_rfl
  show uF130 (88::r)=some (4092,1);rw[e,f09];rfl
 ·have e:uF130 (78::r)=(uF181 50 57).bind fun y8=>some ((y8,(1:Int))):=by kernel_rfl
  show uF130 (78::r)=some (4080,1);rw[e,f29];rfl
 ·have e:uF130 (90::r)=(uF181 49 57).bind fun y8=>some ((y8,(1:Int))):=by kernel_rfl
  show uF130 (90::r)=some (4088,1);rw[e,f19];rfl
 ·exact elem_set (set24 r) (by decide) (by decide)
 ·exact elem_set (set112 r) (by decide) (by decide)
 ·exact elem_set (set184 r) (by decide) (by decide)
 ·exact elem_set (set2064 r) (by decide) (by decide)
theorem EL_head{e:Nat}(he:e<12)(r:List UInt8):((EL e++r)==([]:List UInt8))=false∧((EL e++r)==([46]:List UInt8))=false∧((EL e++r)==([33]:List UInt8))=false:=by
 rcases (by omega:e=0∨e=1∨e=2∨e=3∨e=4∨e=5∨e=6∨e=7∨e=8∨e=9∨e=10∨e=11) with rfl|rfl|rfl|rfl|rfl|rfl|rfl|rfl|rfl|rfl|rfl|rfl <;>
  exact ⟨rfl,rfl,rfl⟩
theorem read_loop(w:uT6)(t:Nat)(ht:t<3):∀ (es:List Nat) (l:List Int),(∀ e∈es,e<12)→l.length+es.length≤4 →
  loopO (fun s:List UInt8×uT6×uT6=>uF67 s.1 s.2.1 s.2.2) (cat es++tst t,w,⟨l,0⟩)=some (.inl (w,⟨l++es.map MK,tby t⟩))
 |[],l,_,_=>by
  rcases (by omega:t=0∨t=1∨t=2) with rfl|rfl|rfl
  ·exact loop3 (by simp[uF67,cat,tst,tby])
  ·exact loop3 (by simp[uF67,cat,tst,tby,idx])
  ·exact loop3 (by simp[uF67,cat,tst,tby,idx])
 |e::es,l,h,hl=>by
  have he:=h e (by simp)
  obtain ⟨a1,a2,a3⟩:=EL_head he (cat es++tst t)
  have ha:=elem_is he (cat es++tst t)
  have hlen:=(EL_len he).1
  have e1:cat (e::es)++tst t=EL e++(cat es++tst t):=by simp[cat]
  simp only[List.length_cons] at hl
  have ih:=read_loop w t ht es (l++[MK e]) (fun x hx=>h x (List.mem_cons_of_mem _ hx)) (by simp;omega)
  rw[e1]
  refine (loop2 (s':=(cat es++tst t,w,⟨l++[MK e],0⟩)) ?_).trans (by rw[ih];simp)
  have hz:(((EL e).length:Int)==0)=false:=by simp;intro q;rw[q] at hlen;simp at hlen
  simp only[uF67,a1,a2,a3,Bool.not_false,cond_true,Bool.or_self,cond_false,ha,Option.bind_some,hz,sub_post]
  rw[app_of (by simp;omega) (by simp;omega)]
  rfl
def PT(es:List Nat)(t:Nat):uT6:=⟨es.map MK,tby t⟩
theorem read_is{p:List UInt8}{es:List Nat}{t:Nat}(h:PGood p es t):uF67a p=some (PT es t,0):=by
 obtain ⟨rfl,h1,h2,h3,h4⟩:=h;have hl:=cat_len es h3;have ht2:(tst t).length≤1:=by unfold tst;split<;>(try split)<;>simp
 have hd:(decide (((List.length (cat es++tst t):Nat):Int) > 60))=false:=by rw[List.length_append];simp;omega
 have:=read_loop ⟨[],0⟩ t h4 es [] h3 (by simp;omega)
 simp only[List.nil_append] at this;have hn:((List.length (es.map MK):Nat):Int)=(es.length:Int):=by simp
 simp only[uF67a,hd,cond_false,this,lret,bnd,hn];have c1:(decide ((es.length:Int)<1))=false:=by simp;omega
 have c2:(decide ((es.length:Int) > 30))=false:=by simp;omega
 have c3:(decide ((es.length:Int)+1<1))=false:=by simp;omega
 have c4:(decide ((es.length:Int)+1 > 30))=false:=by simp;omega
 by_cases ht:t=0
 ·subst ht
  simp only[tby,if_true,bne_self_eq_false,cond_false,Option.bind_some,c1,c2,Bool.or_self,PT]
 ·have hb:(tby t != 0)=true:=by rcases (by omega:t=1∨t=2) with rfl|rfl<;>rfl
  simp only[hb,cond_true,Option.bind_some];rw[w64 (by omega) (by omega),c3,c4];rfl
end Go.Proofs.YtameabpbghichaaGreatDoor
