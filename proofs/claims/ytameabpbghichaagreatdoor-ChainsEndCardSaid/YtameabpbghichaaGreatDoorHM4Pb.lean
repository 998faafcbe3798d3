/-
  Forwards that are drawn: sorted, each once.
-/
import Derived.Test.YtameabpbghichaaGreatDoorHM4PKb
import Derived.Sort.Walk0
namespace Go.Proofs.YtameabpbghichaaGreatDoor
open Go Go.Abs
set_option maxRecDepth 100000
set_option maxHeartbeats 1000000
def oa(ord:uT0→Nat)(w:List uT0)(p:Nat):Nat:=(w[p]?).elim 0 ord
section
variable {ord:uT0→Nat} {G:uT0→Prop}
theorem oa_at{w:List uT0}{p:Nat}(h:p<w.length):oa ord w p=ord w[p]:=by simp[oa,h]
theorem oa_set{w:List uT0}{j:Nat}{x:uT0}(hj:j<w.length)(p:Nat):oa ord (w.set j x) p=if p=j then ord x else oa ord w p:=by
 unfold oa;rw[List.getElem?_set];by_cases h:j=p
 ·subst h;simp[hj]
 ·have h':¬ p=j:=fun e=>h e.symm
  simp[h,h']
theorem mem_set{w:List uT0}{x:uT0}{k:Nat}(h:∀ a∈w,G a)(hx:G x):∀ a∈w.set k x,G a:=fun a ha=>by
 rcases List.mem_or_eq_of_mem_set ha with ha|rfl
 ·exact h a ha
 ·exact hx
theorem insf1_is(c:uT0→uT0→Option Int)(hc:∀ a b,G a→G b→∃ n,c a b=some n∧(n<0↔ord a<ord b))(l:List uT0)(i:Nat)(hi:i<l.length)(hl:l.length≤1000)(hG:∀ a∈l,G a)(hs:∀ p q,p<q→q<i→oa ord l p≤oa ord l q) :
  ∃ r,loopO (fun s:List uT0×Int=>uF192a 0 c s.1 s.2) (l,(i:Int))=some r∧r.length=l.length∧(∀ a∈r,G a)∧∀ p q,p<q→q≤i→oa ord r p≤oa ord r q:=by
 refine loopO_ind (step:=fun s:List uT0×Int=>uF192a 0 c s.1 s.2) (fun q=>0≤q.2∧q.2.toNat≤i∧q.1.length=l.length∧(∀ a∈q.1,G a)∧∀ p q',p<q'→q'≤i→q'≠q.2.toNat→oa ord q.1 p≤oa ord q.1 q')
  (fun r=>r.length=l.length∧(∀ a∈r,G a)∧∀ p q,p<q→q≤i→oa ord r p≤oa ord r q) (fun q=>q.2.toNat) (fun q hq=>?_) (l,(i:Int)) ⟨by simp,by simp,rfl,hG,fun p q' h1 h2 h3=>hs p q' h1 (by simp at h3;omega)⟩
 obtain ⟨w,k⟩:=q;obtain ⟨k0,k1,k2,k3,k4⟩:=hq;simp only[] at k0 k1 k2 k3 k4;obtain ⟨k,rfl⟩:=Int.eq_ofNat_of_zero_le k0;simp only[Int.toNat_natCast] at k1 k4;simp only[uF192a];by_cases h:(k:Int) > 0
 ·have hk:k<w.length:=by omega
  obtain ⟨j,rfl⟩:∃ j,k=j+1:=⟨k-1,by omega⟩;have hj:j<w.length:=by omega
  have wr:IntKind.wrap .i64 (((j+1:Nat):Int)-1)=(j:Int):=by rw[w64 (by omega) (by omega)];omega
  have gx:=k3 _ (List.getElem_mem hk);have gy:=k3 _ (List.getElem_mem hj);obtain ⟨n,hn,hn2⟩:=hc _ _ gx gy;simp only[h,decide_true,cond_true,idx_at hk,wr,idx_at hj,hn,Option.bind_some,bnd];have ox:oa ord w (j+1)=ord w[j+1]:=oa_at hk;have oy:oa ord w j=ord w[j]:=oa_at hj;cases hd:decide (n<0) with
  |false =>
   have hd:¬ n<0:=by simpa using hd
   rw[hn2] at hd;refine .inl ⟨w,by simp,k2,k3,fun p q h1 h2=>?_⟩;by_cases e:q=j+1
   ·subst e
    by_cases e2:p=j
    ·subst e2;omega
    ·have:=k4 p j (by omega) (by omega) (by omega);omega
   ·exact k4 p q h1 h2 e
  |true =>
   have hd:n<0:=by simpa using hd
   rw[hn2] at hd;have e1:idx (w.set (j+1) w[j]) (j:Int)=some w[j]:=by rw[idx_at (by simpa using hj)];simp
   have e2:((j+1:Nat):Int).toNat=j+1:=by omega
   have e3:((j:Nat):Int).toNat=j:=by omega
   simp only[cond_true,e2,e1,e3,Option.bind_some];refine .inr ⟨_,rfl,⟨by (try simp only[]);omega,by (try simp only[]);omega,by simp[k2],mem_set (mem_set k3 gy) gx,?_⟩,by (try simp only[]);omega⟩;intro p q h1 h2 h3;simp only[e3] at h3;have hw:∀ p,oa ord ((w.set (j+1) w[j]).set j w[j+1]) p=if p=j then oa ord w (j+1) else if p=j+1 then oa ord w j else oa ord w p:=fun p=>by
    rw[oa_set (by simpa using hj),oa_set hk,ox,oy]
   rw[hw,hw];have a1:=k4 p q h1 h2;have a2:=k4 p j;have a3:=k4 j q;have a4:=k4 (j+1) q;rw[if_neg h3];by_cases b1:q=j+1
   ·subst b1
    simp only[if_true];by_cases b2:p=j
    ·subst b2;simp only[if_true];omega
    ·rw[if_neg b2,if_neg (by omega)]
     exact a2 (by omega) (by omega) (by omega)
   ·rw[if_neg b1]
    by_cases b2:p=j
    ·subst b2;simp only[if_true];exact a4 (by omega) (by omega) b1
    ·rw[if_neg b2]
     by_cases b3:p=j+1
     ·subst b3;simp only[if_true];exact a3 (by omega) (by omega) b1
     ·rw[if_neg b3];exact a1 b1
 ·have hd:decide ((k:Int) > 0)=false:=by simpa using h
  simp only[hd,cond_false,Option.bind_some];exact .inl ⟨w,rfl,k2,k3,fun p q h1 h2=>k4 p q h1 h2 (by omega)⟩
theorem insf_is(c:uT0→uT0→Option Int)(hc:∀ a b,G a→G b→∃ n,c a b=some n∧(n<0↔ord a<ord b))(l:List uT0)(hl:l.length≤1000)(hG:∀ a∈l,G a) :
  ∃ r,uF192 l 0 (l.length:Int) c=some r∧r.length=l.length∧(∀ a∈r,G a)∧∀ p q,p<q→q<r.length→oa ord r p≤oa ord r q:=by
 obtain ⟨r,h1,h2⟩:=loopO_ind (step:=fun s:List uT0×Int=>uF192b 0 (l.length:Int) c s.1 s.2) (fun q=>1≤q.2∧q.1.length=l.length∧(∀ a∈q.1,G a)∧∀ p q',p<q'→q'<q.2.toNat→q'<l.length→oa ord q.1 p≤oa ord q.1 q')
  (fun r=>r.length=l.length∧(∀ a∈r,G a)∧∀ p q,p<q→q<r.length→oa ord r p≤oa ord r q) (fun q=>(l.length-q.2).toNat) (fun q hq=>by
  obtain ⟨w,k⟩:=q;obtain ⟨k0,k2,k3,k4⟩:=hq;simp only[] at k0 k2 k3 k4;simp only[uF192b];by_cases h:k<(l.length:Int)
  ·obtain ⟨k,rfl⟩:=Int.eq_ofNat_of_zero_le (show 0≤k by omega)
   simp only[Int.toNat_natCast] at k4;obtain ⟨r,h1,h2,h3,h4⟩:=insf1_is c hc w k (by omega) (by omega) k3 (fun p q a b=>k4 p q a b (by omega));simp only[h,decide_true,cond_true,h1,Option.bind_some,bnd];rw[w64 (by omega) (by omega)];exact .inr ⟨_,rfl,⟨by (try simp only[]);omega,by (try simp only[]);omega,h3,fun p q a b _=>h4 p q a (by (try simp only[] at b);omega)⟩,by (try simp only[]);omega⟩
  ·exact .inl ⟨w,by simp[h],k2,k3,fun p q a b=>k4 p q a (by omega) (by omega)⟩) (l,1) ⟨by simp,rfl,hG,fun p q a b _=>by (try simp only[] at b);omega⟩
 refine ⟨r,?_,h2⟩;simp only[uF192,bnd];rw[show IntKind.wrap .i64 (0+1)=1 from rfl,h1];rfl
theorem sortf_is(c:uT0→uT0→Option Int)(hc:∀ a b,G a→G b→∃ n,c a b=some n∧(n<0↔ord a<ord b))(l:List uT0)(hl:l.length≤12)(hG:∀ a∈l,G a) :
  ∃ r,uF104 l c=some r∧r.length=l.length∧(∀ a∈r,G a)∧∀ p q,p<q→q<r.length→oa ord r p≤oa ord r q:=by
 obtain ⟨r,h1,h2⟩:=insf_is c hc l (by omega) hG;refine ⟨r,?_,h2⟩;have d1:decide ((20:Int)≤(l.length:Int))=false:=by simp;omega
 have d2:decide ((20:Int)<(l.length:Int))=false:=by simp;omega
 have e1:loopO (fun s:List uT0×Int×Int=>uF149 (l.length:Int) c s.1 s.2.1 s.2.2) (l,0,20)=some (l,0):=by
  rw[loopO_eq];simp only[uF149,d1,cond_false]
 have e2:loopO (fun s:Int=>uF149a (l.length:Int) s) 20=some ():=by
  rw[loopO_eq];simp only[uF149a,d2,cond_false]
 simp only[uF104,uF149b,e1,Option.bind_some,h1,e2]
theorem comp1_is(e:uT0→uT0→Option Bool)(he:∀ a b,G a→G b→e a b=some (decide (ord a=ord b)))(l:List uT0)(y:Nat)(h1:1≤y)(hy:y<l.length)(hl:l.length≤1000)(hG:∀ a∈l,G a)
  (hs:∀ p q,p<q→q<l.length→oa ord l p≤oa ord l q) (hst:∀ p q,p<q→q<y→oa ord l p<oa ord l q) (heq:oa ord l y=oa ord l (y-1)) :
  ∃ r,loopO (fun s:List uT0×Int×Int=>uF107a e (y:Int) s.1 s.2.1 s.2.2) (l,(y:Int),1)=some r∧r.1.length=l.length∧(∀ a∈r.1,G a)∧1≤r.2∧r.2<l.length∧∀ p q:Nat,p<q→(q:Int)<r.2→oa ord r.1 p<oa ord r.1 q:=by
 refine loopO_ind (step:=fun s:List uT0×Int×Int=>uF107a e (y:Int) s.1 s.2.1 s.2.2)
  (fun s=>∃ (i k:Nat),s.2.1=(i:Int)∧s.2.2=(k:Int)∧1≤k∧1≤i∧i+1≤y+k∧y+k≤l.length∧s.1.length=l.length∧(∀ a∈s.1,G a)∧(∀ p,i≤p→s.1[p]?=l[p]?)∧(∀ p q,p<q→q<i→oa ord s.1 p<oa ord s.1 q)∧oa ord s.1 (i-1)=oa ord l (y+k-1)) _ (fun s=>(l.length-s.2.2).toNat) (fun s hs'=>?_) (l,(y:Int),1) ⟨y,1,rfl,rfl,by omega,by omega,by omega,by omega,rfl,hG,fun _ _=>rfl,hst,by rw[Nat.add_sub_cancel,heq]⟩
 obtain ⟨w,i',k'⟩:=s;obtain ⟨i,k,e1,e2,c1,c2,c3,c4,c5,c6,c7,c8,c9⟩:=hs';simp only[] at e1 e2 c5 c6 c7 c8 c9;subst e1;subst e2;have hln:((List.length (vwD w (y:Int)):Nat):Int)=(l.length:Int)-y:=by simp only[vwD,List.length_drop,Int.toNat_natCast,c5];omega
 simp only[uF107a,hln];by_cases h:(k:Int)<(l.length:Int)-y
 ·have hk:y+k<l.length:=by omega
  have hkw:y+k<w.length:=by omega
  have hkv:k<(vwD w (y:Int)).length:=by have:=hln;omega
  have hkv':k-1<(vwD w (y:Int)).length:=by omega
  have wr:IntKind.wrap .i64 ((k:Int)-1)=((k-1:Nat):Int):=by rw[w64 (by omega) (by omega)];omega
  have wr2:IntKind.wrap .i64 ((k:Int)+1)=((k+1:Nat):Int):=by rw[w64 (by omega) (by omega)];omega
  have wr3:IntKind.wrap .i64 ((i:Int)+1)=((i+1:Nat):Int):=by rw[w64 (by omega) (by omega)];omega
  have v1:idx (vwD w (y:Int)) (k:Int)=some w[y+k]:=by rw[idx_at hkv];simp[vwD]
  have v2:idx (vwD w (y:Int)) ((k-1:Nat):Int)=some (w[y+k-1]'(by omega)):=by
   rw[idx_at hkv'];simp only[vwD,Int.toNat_natCast,List.getElem_drop,Option.some.injEq];congr 1;omega
  have ga:=c6 _ (List.getElem_mem hkw);have gb:=c6 _ (List.getElem_mem (show y+k-1<w.length by omega));have oeq:∀ p,i≤p→oa ord w p=oa ord l p:=fun p hp=>by unfold oa;rw[c7 p hp]
  have o1:ord w[y+k]=oa ord l (y+k):=by rw[← oeq _ (by omega),oa_at]
  have o2:ord (w[y+k-1]'(by omega))=oa ord l (y+k-1):=by rw[← oeq _ (by omega),oa_at]
  have hmono:=hs (y+k-1) (y+k) (by omega) hk;have hk1:y+(k+1)-1=y+k:=by omega
  simp only[h,decide_true,cond_true,wr,v1,v2,Option.bind_some,he _ _ ga gb,o1,o2];cases hd:decide (oa ord l (y+k)=oa ord l (y+k-1)) with
  |true =>
   have hd:oa ord l (y+k)=oa ord l (y+k-1):=by simpa using hd
   simp only[Bool.not_true,cond_false,bnd,wr2];exact .inr ⟨_,rfl,⟨i,k+1,rfl,rfl,by omega,c2,by omega,by omega,c5,c6,c7,c8,by rw[hk1];(try simp only[]);omega⟩,by (try simp only[]);omega⟩
  |false =>
   have hd:¬ oa ord l (y+k)=oa ord l (y+k-1):=by simpa using hd
   have hiw:i<w.length:=by omega
   simp only[Bool.not_false,cond_true,idx_at hiw,Option.bind_some,bnd,wr2,wr3,Int.toNat_natCast];refine .inr ⟨_,rfl,⟨i+1,k+1,rfl,rfl,by omega,by omega,by omega,by omega,by simpa using c5,mem_set c6 ga,fun p hp=>?_,fun p q a b=>?_,?_⟩,by (try simp only[]);omega⟩
   ·simp only[]
    rw[List.getElem?_set_ne (by omega)];exact c7 p (by omega)
   ·simp only[]
    rw[oa_set hiw,oa_set hiw,if_neg (by omega:¬ p=i)];by_cases b1:q=i
    ·rw[if_pos b1,o1]
     by_cases b2:p=i-1
     ·subst b2;omega
     ·have:=c8 p (i-1) (by omega) (by omega);omega
    ·rw[if_neg b1]
     exact c8 p q a (by omega)
   ·simp only[]
    rw[hk1,show i+1-1=i from rfl,oa_set hiw,if_pos rfl,o1]
 ·have hd:decide ((k:Int)<(l.length:Int)-y)=false:=by simpa using h
  simp only[hd,cond_false];exact .inl ⟨_,rfl,c5,c6,by (try simp only[]);omega,by (try simp only[]);omega,fun p q a b=>c8 p q a (by (try simp only[] at b);omega)⟩
theorem compact_is(e:uT0→uT0→Option Bool)(he:∀ a b,G a→G b→e a b=some (decide (ord a=ord b)))(l:List uT0)(hl:l.length≤1000)(hG:∀ a∈l,G a)
  (hs:∀ p q,p<q→q<l.length→oa ord l p≤oa ord l q):∃ r,uF107 l e=some r∧r.length≤l.length∧(∀ a∈r,G a)∧∀ p q,p<q→q<r.length→oa ord r p<oa ord r q:=by
 unfold uF107;by_cases h2:(l.length:Int)<2
 ·simp only[h2,decide_true,cond_true]
  exact ⟨l,rfl,Nat.le_refl _,hG,fun p q a b=>by omega⟩
 ·simp only[h2,decide_false,cond_false]
  obtain ⟨r,h3,h4⟩:=loopO_ind (step:=fun s:List uT0×Int=>uF107b e s.1 s.2)
   (fun s=>∃ i:Nat,s.1=l∧s.2=(i:Int)∧1≤i∧i≤l.length∧∀ p q,p<q→q<i→oa ord l p<oa ord l q)
   (fun r=>∃ z,(r=.inl z∨r=.inr z)∧z.length≤l.length∧(∀ a∈z,G a)∧∀ p q,p<q→q<z.length→oa ord z p<oa ord z q) (fun s=>(l.length-s.2).toNat) (fun s hs'=>by
   obtain ⟨w,i'⟩:=s;obtain ⟨i,e0,e2,c1,c2,c3⟩:=hs';simp only[] at e0 e2;subst e0;subst e2;simp only[uF107b];by_cases h:(i:Int)<(w.length:Int)
   ·have hi:i<w.length:=by omega
    have hi':i-1<w.length:=by omega
    have wr:IntKind.wrap .i64 ((i:Int)-1)=((i-1:Nat):Int):=by rw[w64 (by omega) (by omega)];omega
    have wr2:IntKind.wrap .i64 ((i:Int)+1)=((i+1:Nat):Int):=by rw[w64 (by omega) (by omega)];omega
    have ga:=hG _ (List.getElem_mem hi);have gb:=hG _ (List.getElem_mem hi');have o1:ord w[i]=oa ord w i:=(oa_at hi).symm;have o2:ord w[i-1]=oa ord w (i-1):=(oa_at hi').symm;simp only[h,decide_true,cond_true,wr,idx_at hi,idx_at hi',Option.bind_some,he _ _ ga gb,o1,o2];cases hd:decide (oa ord w i=oa ord w (i-1)) with
    |true =>
     have hd:oa ord w i=oa ord w (i-1):=by simpa using hd
     obtain ⟨⟨z,m⟩,q1,q2,q3,q4,q5,q6⟩:=comp1_is e he w i c1 hi hl hG hs c3 hd;simp only[] at q2 q3 q4 q5 q6;have hv:mkV w (i:Int)=some (i:Int):=by unfold mkV;rw[if_pos ⟨by omega,by omega⟩]
     obtain ⟨m,rfl⟩:=Int.eq_ofNat_of_zero_le (show 0≤m by omega);have hcl:∃ z',clrV z (m:Int) (⟨[],0,[],[]⟩:uT0)=some z'∧z'.take m=z.take m∧m≤z'.length:=by
      refine ⟨z.take m++List.replicate (z.length-m) ⟨[],0,[],[]⟩,?_,?_,?_⟩
      ·unfold clrV clrF
       rw[if_pos (by omega),if_pos ⟨by omega,by omega⟩];simp
      ·rw[List.take_append_of_le_length (by rw[List.length_take];omega),List.take_take,Nat.min_self]
      ·rw[List.length_append,List.length_take,List.length_replicate];omega
     obtain ⟨z',y1,y2,y3⟩:=hcl;have hsub:sub z' 0 (m:Int)=some (z.take m):=by
      unfold sub;rw[if_pos ⟨by omega,by omega,by omega⟩,← y2];simp
     simp only[cond_true,hv,Option.bind_some,q1,y1,hsub];refine .inl ⟨_,rfl,z.take m,.inr rfl,by rw[List.length_take];omega,fun a ha=>q3 a (List.mem_of_mem_take ha),fun p q a b=>?_⟩;rw[List.length_take] at b;have ht:∀ p,p<m→oa ord (z.take m) p=oa ord z p:=fun p hp=>by unfold oa;rw[List.getElem?_take_of_lt hp]
     rw[ht p (by omega),ht q (by omega)];exact q6 p q a (by omega)
    |false =>
     have hd:¬ oa ord w i=oa ord w (i-1):=by simpa using hd
     simp only[cond_false,bnd,wr2];refine .inr ⟨_,rfl,⟨i+1,rfl,rfl,by omega,by omega,fun p q a b=>?_⟩,by (try simp only[]);omega⟩;by_cases b1:q=i
     ·subst b1
      have:=hs (q-1) q (by omega) hi
      by_cases b2:p=q-1
      ·subst b2;omega
      ·have:=c3 p (q-1) (by omega) (by omega);omega
     ·exact c3 p q a (by omega)
   ·have hd:decide ((i:Int)<(w.length:Int))=false:=by simpa using h
    simp only[hd,cond_false];exact .inl ⟨_,rfl,w,.inl rfl,Nat.le_refl _,hG,fun p q a b=>c3 p q a (by omega)⟩) (l,1) ⟨1,rfl,rfl,by omega,by omega,fun p q a b=>by omega⟩
  obtain ⟨z,hz,h5⟩:=h4;refine ⟨z,?_,h5⟩;rcases hz with rfl|rfl<;>(rw[h3];rfl)
end
def lns:List (List UInt8):=[[108,97],[108,98],[108,99],[108,100],[108,101]]
def LN(i:Nat):List UInt8:=lns.getD i []
def HR(i:Nat):List UInt8:=if i=0 then [] else kHa
def mkF(c:Nat)(to:List UInt8):uT0:=⟨LN (c / 6),((c / 2 % 3+1:Nat):Int),to,HR (c % 2)⟩
def FG(f:uT0):Prop:=(∃ c<24,f=mkF c f.To)∧f.To∈lns∧(f.To==f.Line)=false
def ordF(f:uT0):Nat:=(List.range 24).findIdx fun c=>(mkF c []).Line==f.Line&&(mkF c []).When==f.When&&(mkF c []).Hours==f.Hours
theorem ord_all:(List.range 24).all (fun c=>ordF (mkF c [])==c)=true:=by kernel_rfl
theorem ord_is{c:Nat}(h:c<24)(to:List UInt8):ordF (mkF c to)=c:=by
 have:=List.all_eq_true.1 ord_all c (List.mem_range.2 h)
 have e:ordF (mkF c to)=ordF (mkF c []):=rfl;rw[e];simpa using this
def key2(a b:uT0):Option Int:=uF105 a b fun a=>uF103 a
def key3(a b:uT0):Option Bool:=uF108 a b fun a=>uF103 a
def chk(c d:Nat):Bool:=(match key2 (mkF c []) (mkF d []) with|some n=>decide (n<0)==decide (c<d)|none=>false)&&(key3 (mkF c []) (mkF d [])==some (decide (c=d)))&&(match uF112 (mkF c []) (mkF d []) with|some n=>decide (n<0)==decide (c<d)|none=>false)
theorem chk_all:(List.range 24).all (fun c=>(List.range 24).all fun d=>chk c d)=true:=by kernel_rfl
theorem chk_is{c d:Nat}(hc:c<24)(hd:d<24):(∃ n,key2 (mkF c []) (mkF d [])=some n∧(n<0↔c<d))∧key3 (mkF c []) (mkF d [])=some (decide (c=d))∧∃ n,uF112 (mkF c []) (mkF d [])=some n∧(n<0↔c<d):=by
 have h:=List.all_eq_true.1 (List.all_eq_true.1 chk_all c (List.mem_range.2 hc)) d (List.mem_range.2 hd);unfold chk at h;simp only[Bool.and_eq_true,beq_iff_eq] at h;obtain ⟨⟨h1,h2⟩,h3⟩:=h;refine ⟨?_,h2,?_⟩
 ·cases e:key2 (mkF c []) (mkF d []) with
  |none=>rw[e] at h1;simp at h1
  |some n =>
   rw[e] at h1;exact ⟨n,rfl,by simpa using h1⟩
 ·cases e:uF112 (mkF c []) (mkF d []) with
  |none=>rw[e] at h3;simp at h3
  |some n =>
   rw[e] at h3;exact ⟨n,rfl,by simpa using h3⟩
theorem fg_code{f:uT0}(h:FG f):ordF f<24∧f=mkF (ordF f) f.To:=by
 obtain ⟨⟨c,hc,e⟩,_⟩:=h;have:ordF f=c:=by rw[e];exact ord_is hc _
 rw[this];exact ⟨hc,e⟩
theorem key2_is{a b:uT0}(ha:FG a)(hb:FG b):∃ n,key2 a b=some n∧(n<0↔ordF a<ordF b):=by
 obtain ⟨a1,a2⟩:=fg_code ha;obtain ⟨b1,b2⟩:=fg_code hb
 have:=(chk_is a1 b1).1
 have e:key2 a b=key2 (mkF (ordF a) []) (mkF (ordF b) []):=by rw[a2,b2];simp only[ord_is a1,ord_is b1];rfl
 rw[e];exact this
theorem key3_is{a b:uT0}(ha:FG a)(hb:FG b):key3 a b=some (decide (ordF a=ordF b)):=by
 obtain ⟨a1,a2⟩:=fg_code ha;obtain ⟨b1,b2⟩:=fg_code hb
 have:=(chk_is a1 b1).2.1
 have e:key3 a b=key3 (mkF (ordF a) []) (mkF (ordF b) []):=by rw[a2,b2];simp only[ord_is a1,ord_is b1];rfl
 rw[e];exact this
theorem cmpf_is{a b:uT0}(ha:FG a)(hb:FG b):∃ n,uF112 a b=some n∧(n<0↔ordF a<ordF b):=by
 obtain ⟨a1,a2⟩:=fg_code ha;obtain ⟨b1,b2⟩:=fg_code hb
 have:=(chk_is a1 b1).2.2
 have e:uF112 a b=uF112 (mkF (ordF a) []) (mkF (ordF b) []):=by rw[a2,b2];simp only[ord_is a1,ord_is b1];rfl
 rw[e];exact this
def FsOk(l:List uT0):Prop:=l.length≤7∧(∀ f∈l,FG f)∧∀ p q,p<q→q<l.length→oa ordF l p<oa ordF l q
theorem tidy_is(l:List uT0)(hl:l.length≤7)(hG:∀ f∈l,FG f):∃ r,uF50 l=some r∧FsOk r:=by
 obtain ⟨s,h1,h2,h3,h4⟩:=sortf_is (ord:=ordF) (G:=FG) key2 (fun a b ha hb=>key2_is ha hb) l (by omega) hG;obtain ⟨r,h5,h6,h7,h8⟩:=compact_is (ord:=ordF) (G:=FG) key3 (fun a b ha hb=>key3_is ha hb) s (by omega) h3 h4;refine ⟨r,?_,by omega,h7,h8⟩;have h1':uF104 l (fun a0 a1=>uF105 a0 a1 (fun a0=>uF103 a0))=some s:=h1;have h5':uF107 s (fun a0 a1=>uF108 a0 a1 (fun a0=>uF103 a0))=some r:=h5;simp only[uF50,h1',Option.bind_some,h5']
theorem fg_of{ln to hr:List UInt8}{w:Int}(h1:ln∈([[108,97],[108,97],[108,98],[108,99],[108,100]]:List (List UInt8)))(h2:1≤w)(h3:w≤3)(h4:to∈lns)(h5:hr∈([[],[],[104,97]]:List (List UInt8)))(h6:(ln==to)=false):FG ⟨ln,w,to,hr⟩:=by
 refine ⟨?_,h4,?_⟩
 ·have hw:w=1∨w=2∨w=3:=by omega
  simp only[List.mem_cons,List.not_mem_nil,or_false] at h1 h5;have key:∀ (c:Nat) (a b:List UInt8) (n:Int),c<24→LN (c / 6)=a→((c / 2 % 3+1:Nat):Int)=n→HR (c % 2)=b→∃ c<24,(⟨a,n,to,b⟩:uT0)=mkF c to:=fun c a b n e1 e2 e3 e4=>⟨c,e1,by unfold mkF;rw[e2,e3,e4]⟩;rcases h1 with rfl|rfl|rfl|rfl|rfl<;>rcases hw with rfl|rfl|rfl<;>rcases h5 with rfl|rfl|rfl <;>
   first
   |exact key 0 _ _ _ (by decide) rfl rfl rfl
   |exact key 1 _ _ _ (by decide) rfl rfl rfl
   |exact key 2 _ _ _ (by decide) rfl rfl rfl
   |exact key 3 _ _ _ (by decide) rfl rfl rfl
   |exact key 4 _ _ _ (by decide) rfl rfl rfl
   |exact key 5 _ _ _ (by decide) rfl rfl rfl
   |exact key 6 _ _ _ (by decide) rfl rfl rfl
   |exact key 7 _ _ _ (by decide) rfl rfl rfl
   |exact key 8 _ _ _ (by decide) rfl rfl rfl
   |exact key 9 _ _ _ (by decide) rfl rfl rfl
   |exact key 10 _ _ _ (by decide) rfl rfl rfl
   |exact key 11 _ _ _ (by decide) rfl rfl rfl
   |exact key 12 _ _ _ (by decide) rfl rfl rfl
   |exact key 13 _ _ _ (by decide) rfl rfl rfl
   |exact key 14 _ _ _ (by decide) rfl rfl rfl
   |exact key 15 _ _ _ (by decide) rfl rfl rfl
   |exact key 16 _ _ _ (by decide) rfl rfl rfl
   |exact key 17 _ _ _ (by decide) rfl rfl rfl
   |exact key 18 _ _ _ (by decide) rfl rfl rfl
   |exact key 19 _ _ _ (by decide) rfl rfl rfl
   |exact key 20 _ _ _ (by decide) rfl rfl rfl
   |exact key 21 _ _ _ (by decide) rfl rfl rfl
   |exact key 22 _ _ _ (by decide) rfl rfl rfl
   |exact key 23 _ _ _ (by decide) rfl rfl rfl
 ·simp only[beq_eq_false_iff_ne] at h6 ⊢
  exact fun e=>h6 e.symm
theorem forwards_is(s0:uT1)(k:Int)(hs:SOk s0 k)(hk:k≤1000):∃ s' l,uF14 s0=some (s',l)∧FsOk l∧SOk s' (k+30):=by
 obtain ⟨n,e0,n0,n1⟩:=range_is s0 0 7 k hs (by omega) (by omega) (by omega) (by omega);obtain ⟨e,h1,h2,h3,h4⟩:=loopO_ind (step:=fun s:List uT0×Int×uT1=>uF14a (⟨s0.L,s0.at_+1⟩,n) s.1 s.2.1 s.2.2)
  (fun q=>0≤q.2.1∧q.2.1≤n∧(q.1.length:Int)≤q.2.1∧(∀ f∈q.1,FG f)∧SOk q.2.2 (k+1+4*q.2.1))
  (fun e=>(e.1.length:Int)≤7∧(∀ f∈e.1,FG f)∧SOk e.2 (k+30)) (fun q=>(n-q.2.1).toNat) (fun q hq=>by
   obtain ⟨l,i,s⟩:=q;obtain ⟨q0,q1,q2,q3,q4⟩:=hq;simp only[] at q0 q1 q2 q3 q4;simp only[uF14a];by_cases hlt:i<n
   ·obtain ⟨ln,e1,m1⟩:=some_in s [[108,97],[108,97],[108,98],[108,99],[108,100]] _ q4 (by omega) (by simp) (by simp)
    obtain ⟨w,e2,w1,w2⟩:=range_is ⟨s.L,s.at_+1⟩ 1 3 _ q4.one (by omega) (by omega) (by omega) (by omega);obtain ⟨to,e3,m3⟩:=some_in ⟨s.L,s.at_+1+1⟩ [[108,97],[108,98],[108,99],[108,100],[108,101]] _ q4.one.one (by omega) (by simp) (by simp);obtain ⟨hr,e4,m4⟩:=some_in ⟨s.L,s.at_+1+1+1⟩ [[],[],[104,97]] _ q4.one.one.one (by omega) (by simp) (by simp);have hS:=q4.one.one.one.one;simp only[hlt,decide_true,cond_true,e1,Option.bind_some,e2,e3,e4];rw[w64 (by omega) (by omega)];cases hb:ln==to with
    |true =>
     simp only[Bool.not_true,cond_false];exact .inr ⟨_,rfl,⟨by (try simp only[]);omega,by (try simp only[]);omega,by (try simp only[]);omega,q3,hS.up (by (try simp only[]);omega)⟩,by (try simp only[]);omega⟩
    |false =>
     simp only[Bool.not_false,cond_true];rw[app_of (by simp;omega) (by simp;omega)];simp only[Option.bind_some];refine .inr ⟨_,rfl,⟨by (try simp only[]);omega,by (try simp only[]);omega,by simp only[List.length_append,List.length_singleton];omega,fun f hf=>?_,hS.up (by (try simp only[]);omega)⟩,by (try simp only[]);omega⟩;rcases List.mem_append.1 hf with hf|hf
     ·exact q3 f hf
     ·obtain rfl:=List.mem_singleton.1 hf
      exact fg_of m1 w1 w2 m3 m4 hb
   ·simp only[hlt,decide_false,cond_false]
    exact .inl ⟨_,rfl,by (try simp only[]);omega,q3,q4.up (by (try simp only[]);omega)⟩) ([],0,⟨s0.L,s0.at_+1⟩) ⟨by simp,by simpa using n0,by simp,by simp,hs.one.up (by (try simp only[]);omega)⟩
 obtain ⟨l,s'⟩:=e;simp only[] at h2 h3 h4;obtain ⟨r,h5,h6⟩:=tidy_is l (by omega) h3;refine ⟨s',r,?_,h6,h4⟩;simp only[uF14,e0,Option.bind_some,h1,h5]
theorem keyLn{x:List UInt8}(h:x∈lns):uF54 x=some true:=by
 simp only[lns,List.mem_cons,List.not_mem_nil,or_false] at h;rcases h with rfl|rfl|rfl|rfl|rfl<;>kernel_rfl
theorem mkF_facts:(List.range 24).all (fun c=>decide (LN (c / 6)∈lns)&&decide (LN (c / 6)≠[108,101]))=true:=by kernel_rfl
theorem fg_facts{f:uT0}(h:FG f):f.Line∈lns∧f.Line≠[108,101]∧1≤f.When∧f.When≤3∧(f.Hours=[]∨f.Hours=kHa∨f.Hours=kHb):=by
 obtain ⟨⟨c,hc,e⟩,_⟩:=h;have h1:=List.all_eq_true.1 mkF_facts c (List.mem_range.2 hc);simp only[Bool.and_eq_true,decide_eq_true_eq] at h1;rw[e];refine ⟨h1.1,h1.2,?_,?_,?_⟩
 ·show (1:Int)≤((c / 2 % 3+1:Nat):Int);omega
 ·show ((c / 2 % 3+1:Nat):Int)≤3;omega
 ·show HR (c % 2)=[]∨HR (c % 2)=kHa∨HR (c % 2)=kHb
  unfold HR;split
  ·exact .inl rfl
  ·exact .inr (.inl rfl)
section
variable {p:uT2} {a b:uT3} {R0 R1 R2:List uT4} {I0 I1:List (List UInt8)} {most:Int}
theorem checkF_is(h:PlanOk p a b R0 R1 R2 I0 I1 most){l:List uT0}(hl:FsOk l):uF51 p l=some 0:=by
 have hp:=check_is h;obtain ⟨ep,r0,r1,r2,i0,i1,ha,ka,hb,kb,h4⟩:=h;have eh:p.Hours=[a,b]:=by rw[ep]
 obtain ⟨l1,l2,l3⟩:=hl;have n1:(decide (((l.length:Nat):Int) > 1000))=false:=by simp;omega
 have:=loop_for (N:=l.length) (step:=fun s:Int=>uF51a p l s) (fun k=>(k:Int)) (.inl ()) (fun k hk=>by
  have hd:(decide (((k:Nat):Int)<((l.length:Nat):Int)))=true:=by simpa using hk
  have hf:=l2 _ (List.getElem_mem hk);obtain ⟨f1,_,f2,f3,f4⟩:=fg_facts hf;have hto:=hf.2;simp only[uF51a];rw[hd,idx_at hk];simp only[cond_true,Option.bind_some,keyLn f1,keyLn hto.1,Bool.not_true,cond_false,within_ok f2 f3,hasHours_is p eh ka kb f4,hto.2,bnd];have w1:IntKind.wrap .i64 ((k:Int)+1)=((k+1:Nat):Int):=by rw[w64 (by omega) (by omega)];omega
  rw[w1];by_cases h0:0<k
  ·have hk':k-1<l.length:=by omega
   have w2:IntKind.wrap .i64 ((k:Int)-1)=((k-1:Nat):Int):=by rw[w64 (by omega) (by omega)];omega
   have hd0:(decide ((k:Int) > 0))=true:=by simpa using h0
   obtain ⟨n,hn,hn2⟩:=cmpf_is (l2 _ (List.getElem_mem hk')) hf;have hlt:=l3 (k-1) k (by omega) hk;rw[oa_at hk,oa_at hk'] at hlt;have hnn:decide (n ≥ 0)=false:=by
    have:=hn2.2 hlt
    simp;omega
   rw[hd0,w2,idx_at hk'];simp only[cond_true,Option.bind_some,hn,hnn,cond_false]
  ·have hd0:(decide ((k:Int) > 0))=false:=by simp;omega
   rw[hd0];rfl) (by simp[uF51a])
 simp only[Int.natCast_zero] at this;simp only[uF51,hp,Option.bind_some,bne_self_eq_false,cond_false,n1,this,lret]
end
section
variable {p:uT2} {a b:uT3} {R0 R1 R2:List uT4} {I0 I1:List (List UInt8)} {most:Int}
theorem circles_is(h:PlanOk p a b R0 R1 R2 I0 I1 most){l:List uT0}(hl:FsOk l):uF15 p l=some (circC l,0):=by
 unfold uF15;rw[checkF_is h hl];simp only[Option.bind_some,bne_self_eq_false,cond_false];rw[if_pos (by have:=hl.1;omega)]
theorem srtS_sorted(l:List (List UInt8)):(srtS l).Pairwise fun x y=>x≤y:=by
 have:=List.pairwise_mergeSort (le:=fun x y:List UInt8=>decide (x≤y)) (fun a b c h1 h2=>by simp only[decide_eq_true_eq] at h1 h2 ⊢;exact List.le_trans h1 h2) (fun a b=>by simpa using List.le_total a b) l
 exact this.imp fun h=>by simpa using h
theorem less_is(x y:List UInt8):uF53 x y=some (Op.bytesLess x y):=by
 simp[uF53,uF115,bnd]
theorem isSorted_is(l:List (List UInt8))(hl:l.length≤1000)(h:l.Pairwise fun x y=>x≤y):uF16 l=some true:=by
 obtain ⟨e,h1,h2⟩:=loopO_ind (step:=fun s:Int=>uF16a l s) (fun k=>-1≤k∧k<l.length) (fun e=>e=.inl ()) (fun k=>k.toNat) (fun k hk=>by
  simp only[uF16a];by_cases h0:k > 0
  ·obtain ⟨k,rfl⟩:=Int.eq_ofNat_of_zero_le (show 0≤k by omega)
   obtain ⟨j,rfl⟩:∃ j,k=j+1:=⟨k-1,by omega⟩;have hk1:j+1<l.length:=by omega
   have hj1:j<l.length:=by omega
   have wr:IntKind.wrap .i64 (((j+1:Nat):Int)-1)=(j:Int):=by rw[w64 (by omega) (by omega)];omega
   have hle:=List.pairwise_iff_getElem.1 h j (j+1) hj1 hk1 (by omega);have hb:Op.bytesLess l[j+1] l[j]=false:=by
    rw[Go.Proofs.bytesLess_eq];simp only[decide_eq_false_iff_not];exact hle
   simp only[h0,decide_true,cond_true,idx_at hk1,wr,idx_at hj1,Option.bind_some,less_is,hb,cond_false,bnd];exact .inr ⟨_,rfl,⟨by omega,by omega⟩,by omega⟩
  ·simp only[h0,decide_false,cond_false]
   exact .inl ⟨_,rfl,rfl⟩) ((l.length:Int)-1) ⟨by omega,by omega⟩
 subst h2;simp only[uF16,bnd,w64 (show (-9223372036854775808:Int)≤(l.length:Int)-1 by omega) (by omega),h1,lret]
theorem circ_len(l:List uT0):(circC l).length≤l.length:=by
 have key:∀ (l:List uT0) (ks:List (List UInt8)),(l.foldl (fun ks f=>if f.Line∈ks then ks else ks++[f.Line]) ks).length≤ks.length+l.length:=by
  intro l;induction l with
  |nil=>intro ks;simp
  |cons f l ih =>
   intro ks;rw[List.foldl_cons];refine Nat.le_trans (ih _) ?_;split
   ·simp only[List.length_cons];omega
   ·simp only[List.length_cons,List.length_append,List.length_nil];omega
 have h1:=key l [];unfold circC srtS;rw[List.length_mergeSort];refine Nat.le_trans (List.length_filter_le _ _) ?_;simpa[keysC] using h1
theorem circ_sorted{l:List uT0}(hl:FsOk l):uF16 (circC l)=some true:=isSorted_is _ (by have:=circ_len l;have:=hl.1;omega) (by unfold circC;exact srtS_sorted _)
theorem circ_has{l:List uT0}{f:uT0}(hf:f∈l)(h:ReachC l f.Line f.Line):decide (((circC l).length:Int) > 0)=true:=by
 have hk:f.Line∈keysC l:=by
  have key:∀ (l:List uT0) (ks:List (List UInt8)),(f.Line∈ks∨f∈l)→f.Line∈l.foldl (fun ks f=>if f.Line∈ks then ks else ks++[f.Line]) ks:=by
   intro l;induction l with
   |nil=>intro ks h;simpa using h
   |cons g l ih =>
    intro ks h;rw[List.foldl_cons];refine ih _ ?_;rcases h with h|h
    ·left
     split
     ·exact h
     ·exact List.mem_append_left _ h
    ·rcases List.mem_cons.1 h with rfl|h
     ·left
      split
      ·assumption
      ·exact List.mem_append_right _ (by simp)
     ·exact .inr h
  exact key l [] (.inr hf)
 have hm:f.Line∈circC l:=by
  unfold circC srtS;rw[List.mem_mergeSort,List.mem_filter];exact ⟨hk,by simpa using h⟩
 have:=List.length_pos_of_mem hm
 simp;omega
theorem next_at(h:PlanOk p a b R0 R1 R2 I0 I1 most){l:List uT0}(hl:FsOk l)(x:List UInt8)(st:Int):∃ r,uF57a p l x 0 st=some r∧(r.2=false∨(r.2=true∧∃ f∈l,f.Line=x∧f.To=r.1)):=by
 obtain ⟨ep,r0,r1,r2,i0,i1,ha,ka,hb,kb,h4⟩:=h;have eh:p.Hours=[a,b]:=by rw[ep]
 obtain ⟨l1,l2,l3⟩:=hl;have key:∀ y24:Int,∃ e,loopO (fun s:Int=>uF57 p l x 0 y24 s) 0=some e∧(e=.inl ()∨∃ f∈l,f.Line=x∧e=.inr (f.To,true)):=fun y24=>by
  refine loopO_ind (step:=fun s:Int=>uF57 p l x 0 y24 s) (fun k=>0≤k∧k≤l.length) _ (fun k=>(l.length-k).toNat) (fun k hk=>?_) 0 ⟨by omega,by omega⟩;obtain ⟨k0,k1⟩:=hk;obtain ⟨k,rfl⟩:=Int.eq_ofNat_of_zero_le k0;simp only[uF57];by_cases h0:(k:Int)<(l.length:Int)
  ·have hk:k<l.length:=by omega
   have hf:=l2 _ (List.getElem_mem hk);obtain ⟨_,_,_,_,f4⟩:=fg_facts hf;have hcn:=counts_is p eh ha ka hb kb f4 (at_:=0) (by omega) (by omega);simp only[h0,decide_true,cond_true,idx_at hk,Option.bind_some,hcn];cases hc:(l[k].Line==x&&(l[k].When==(1:Int)||l[k].When==y24)) with
   |false =>
    simp only[cond_false,Option.bind_some];rw[w64 (by omega) (by omega)];exact .inr ⟨_,rfl,⟨by omega,by omega⟩,by omega⟩
   |true =>
    simp only[cond_true,Option.bind_some];cases hb2:cnt a b l[k].Hours 0 with
    |true =>
     simp only[cond_true];simp only[Bool.and_eq_true,beq_iff_eq] at hc;exact .inl ⟨_,rfl,.inr ⟨l[k],List.getElem_mem hk,hc.1,rfl⟩⟩
    |false =>
     simp only[cond_false];rw[w64 (by omega) (by omega)];exact .inr ⟨_,rfl,⟨by omega,by omega⟩,by omega⟩
  ·simp only[h0,decide_false,cond_false]
   exact .inl ⟨_,rfl,.inl rfl⟩
 have hy:∃ y24:Int,(bif st==(1:Int) then some (2:Int) else bnd (st==(2:Int)) fun u26=>bif u26 then some (3:Int) else some (0:Int))=some y24:=by
  cases st==(1:Int)<;>cases st==(2:Int)<;>exact ⟨_,rfl⟩
 obtain ⟨y24,hy⟩:=hy;obtain ⟨e,e1,e2⟩:=key y24;unfold uF57a;simp only[bnd] at hy ⊢;rw[hy];simp only[Option.bind_some,e1];rcases e2 with rfl|⟨f,hf,h1,rfl⟩
 ·exact ⟨_,rfl,.inl rfl⟩
 ·exact ⟨_,rfl,.inr ⟨rfl,f,hf,h1,rfl⟩⟩
end
/-! The states. -/
def stv(b:Bool):List UInt8:=if b then [98,117,115,121] else [115,105,108,101,110,116]
def prs(b0 b1 b2 b3:Bool):List uT7:=[⟨[108,97],stv b0⟩,⟨[108,98],stv b1⟩,⟨[108,99],stv b2⟩,⟨[108,100],stv b3⟩]
def sti(b:Bool):Int:=if b then 1 else 2
def stm(b0 b1 b2 b3:Bool):List (List UInt8×Int):=[([108,97],sti b0),([108,98],sti b1),([108,99],sti b2),([108,100],sti b3)]
theorem states_is(b0 b1 b2 b3:Bool):uF56 (prs b0 b1 b2 b3)=some (stm b0 b1 b2 b3,0):=by
 have:loopO (fun s:List (List UInt8×Int)×Int=>uF56a (prs b0 b1 b2 b3) s.1 s.2) ([],0)=some (.inl (stm b0 b1 b2 b3)):=by
  refine loop_twin (fun s r h=>h) 8 _ _ ?_;cases b0<;>cases b1<;>cases b2<;>cases b3<;>kernel_rfl
 unfold uF56;rw[this];rfl
theorem state_some(s:uT1)(k:Int)(hs:SOk s k)(hk:k≤100000):∃ b,uF6 s [[98,117,115,121],[115,105,108,101,110,116]]=some (⟨s.L,s.at_+1⟩,stv b):=by
 obtain ⟨r,e,m⟩:=some_in s [[98,117,115,121],[115,105,108,101,110,116]] k hs (by omega) (by simp) (by simp);simp only[List.mem_cons,List.not_mem_nil,or_false] at m;rcases m with rfl|rfl
 ·exact ⟨true,e⟩
 ·exact ⟨false,e⟩
theorem pairs_is(s0:uT1)(k:Int)(hs:SOk s0 k)(hk:k≤10000):∃ b0 b1 b2 b3 s',loopO (fun s:List uT7×Int×uT1=>uF4 s.1 s.2.1 s.2.2) ([],0,s0)=some (prs b0 b1 b2 b3,s')∧SOk s' (k+4):=by
 obtain ⟨b0,e0⟩:=state_some s0 _ hs (by omega);obtain ⟨b1,e1⟩:=state_some _ _ hs.one (by omega);obtain ⟨b2,e2⟩:=state_some _ _ hs.one.one (by omega);obtain ⟨b3,e3⟩:=state_some _ _ hs.one.one.one (by omega);refine ⟨b0,b1,b2,b3,_,?_,hs.one.one.one.one.up (by omega)⟩;have hlen:((List.length (([([108,97]:List UInt8),([108,98]:List UInt8),([108,99]:List UInt8),([108,100]:List UInt8)]:List (List UInt8))):Nat):Int)=4:=rfl;have step:∀ (w:List uT7) (i:Int) (ln:List UInt8) (s:uT1) (b:Bool),i<4→0≤i→w.length≤100→idx ([([108,97]:List UInt8),([108,98]:List UInt8),([108,99]:List UInt8),([108,100]:List UInt8)]:List (List UInt8)) i=some ln→uF6 s [[98,117,115,121],[115,105,108,101,110,116]]=some (⟨s.L,s.at_+1⟩,stv b) →
   uF4 w i s=some (.inl (w++[⟨ln,stv b⟩],i+1,⟨s.L,s.at_+1⟩)):=fun w i ln s b h1 h2 h3 h4 h5=>by
  simp only[uF4,hlen,h1,decide_true,cond_true,h4,Option.bind_some,h5];rw[app_of (by simp;omega) (by simp;omega),w64 (by omega) (by omega)];rfl
 refine (loop2 (step [] 0 _ s0 b0 (by omega) (by omega) (by simp) rfl e0)).trans ((loop2 (step _ 1 _ _ b1 (by omega) (by omega) (by simp) rfl e1)).trans ((loop2 (step _ 2 _ _ b2 (by omega) (by omega) (by simp) rfl e2)).trans ((loop2 (step _ 3 _ _ b3 (by omega) (by omega) (by simp) rfl e3)).trans (loop3 ?_))));simp only[uF4,hlen];rfl
theorem pigeon{α:Type}[BEq α][LawfulBEq α]:∀ {l m:List α},l.Nodup→(∀ x∈l,x∈m)→l.length≤m.length
 |[],_,_,_=>Nat.zero_le _
 |a::l,m,hn,h=>by
  rw[List.nodup_cons] at hn
  have ha:=h a (List.mem_cons_self ..)
  have:=pigeon (m:=m.erase a) hn.2 fun x hx=>(List.mem_erase_of_ne (fun e:x=a=>hn.1 (by rw[← e];exact hx))).2 (h x (List.mem_cons_of_mem _ hx))
  rw[List.length_erase_of_mem ha] at this
  have:=List.length_pos_of_mem ha
  simp only[List.length_cons]
  omega
theorem mem_toC{l:List uT0}{f:uT0}(hf:f∈l){x y:List UInt8}(h1:f.Line=x)(h2:f.To=y):y∈toC l x:=by
 unfold toC;exact List.mem_map.2 ⟨f,List.mem_filter.2 ⟨hf,by simpa using h1⟩,h2⟩
def Edges(l:List uT0)(w:List (List UInt8)):Prop:=∀ i (h:i+1<w.length),∃ f∈l,f.Line=w[i]∧f.To=w[i+1]
structure Path(l:List uT0)(x:List UInt8)(w:List (List UInt8)):Prop where
  nd:w.Nodup
  hd:w[0]?=some x
  ln:∀ a∈w,a∈lns
  ed:Edges l w
theorem path_reach{l:List uT0}{w:List (List UInt8)}(hp:Edges l w)(i:Nat):∀ (d:Nat) (h:i+d+1<w.length),ReachC l (w[i]'(by omega)) (w[i+d+1])
 |0,h=>by
  obtain ⟨f,hf,h1,h2⟩:=hp i h
  exact .one (mem_toC hf h1 h2)
 |d+1,h=>by
  obtain ⟨f,hf,h1,h2⟩:=hp (i+d+1) (by omega)
  exact .more (path_reach hp i d (by omega)) (mem_toC hf h1 (by rw[h2];rfl))
theorem Path.len{l:List uT0}{x:List UInt8}{w:List (List UInt8)}(h:Path l x w):0<w.length∧w.length≤5:=by
 refine ⟨?_,pigeon h.nd h.ln⟩
 have:=h.hd
 cases w with
 |nil=>simp at this
 |cons=>simp
section
variable {p:uT2} {a b:uT3} {R0 R1 R2:List uT4} {I0 I1:List (List UInt8)} {most:Int}
def ChainR(l:List uT0)(x:List UInt8)(r:List (List UInt8)×Int):Prop:=(r.2=14∧decide (((circC l).length:Int) > 0)=true)∨(r.2=0∧Path l x r.1)
theorem chain_loop(h:PlanOk p a b R0 R1 R2 I0 I1 most){l:List uT0}(hl:FsOk l){x:List UInt8}(hx:x∈lns)(m:List (List UInt8×Int)×Int):∃ r,loopO (fun s:List (List UInt8)=>uF17 p l 0 m s) [x]=some (.inr r)∧ChainR l x r:=by
 obtain ⟨e,e1,r,rfl,e2⟩:=loopO_ind (step:=fun s:List (List UInt8)=>uF17 p l 0 m s) (Path l x) (fun e=>∃ r,e=.inr r∧ChainR l x r) (fun w=>6-w.length) (fun w hw=>by
  obtain ⟨h0,h5⟩:=hw.len;obtain ⟨n,hn⟩:∃ n,w.length=n+1:=⟨w.length-1,by omega⟩;have hnl:n<w.length:=by omega
  have wr:IntKind.wrap .i64 ((w.length:Int)-1)=(n:Int):=by rw[w64 (by omega) (by omega)];omega
  have d10:((w.length:Int)==(10:Int))=false:=by simp;omega
  obtain ⟨r,hr,hr2⟩:=next_at h hl w[n] ((mget m.1 w[n]).getD 0);simp only[uF17,wr,idx_at hnl,Option.bind_some,hr,d10,cond_false];rcases hr2 with hf|⟨ht,f,hf,f1,f2⟩
  ·rw[hf]
   simp only[Bool.not_false,cond_true];exact .inl ⟨_,rfl,_,rfl,.inr ⟨rfl,hw⟩⟩
  ·rw[ht]
   simp only[Bool.not_true,cond_false];rw[contStr_is w r.1 (by omega)];simp only[Option.bind_some];cases hc:w.any (r.1==·) with
   |true =>
    simp only[cond_true];refine .inl ⟨_,rfl,_,rfl,.inl ⟨rfl,?_⟩⟩;rw[List.any_eq_true] at hc;obtain ⟨y,hy,hy2⟩:=hc;have hy2:r.1=y:=by simpa using hy2
    obtain ⟨j,hj,rfl⟩:=List.getElem_of_mem hy;by_cases hjn:j=n
    ·subst hjn
     refine circ_has hf ?_;rw[f1];exact .one (mem_toC hf f1 (f2.trans hy2))
    ·obtain ⟨d,hd⟩:∃ d,n=j+d+1:=⟨n-j-1,by omega⟩
     subst hd;obtain ⟨g,hg,g1,_⟩:=hw.ed j (by omega);refine circ_has hg ?_;rw[g1];exact .more (path_reach hw.ed j d (by omega)) (mem_toC hf f1 (f2.trans hy2))
   |false =>
    simp only[cond_false];rw[app_of (by simp;omega) (by simp;omega)];have hnot:r.1∉w:=fun hin=>by
     rw[List.any_eq_false] at hc
     have:=hc r.1 hin
     simp at this
    refine .inr ⟨_,rfl,⟨?_,?_,fun y hy=>?_,fun i hi=>?_⟩,by simp only[List.length_append,List.length_singleton];omega⟩
    ·rw[List.nodup_append]
     refine ⟨hw.nd,by simp,fun y hy z hz=>?_⟩;obtain rfl:=List.mem_singleton.1 hz;rintro rfl;exact hnot hy
    ·rw[List.getElem?_append_left (by omega)]
     exact hw.hd
    ·rcases List.mem_append.1 hy with hy|hy
     ·exact hw.ln y hy
     ·obtain rfl:=List.mem_singleton.1 hy
      rw[← f2];exact (hl.2.1 f hf).2.1
    ·simp only[List.length_append,List.length_singleton] at hi
     by_cases hin:i+1<w.length
     ·obtain ⟨g,hg,g1,g2⟩:=hw.ed i hin
      exact ⟨g,hg,by rw[g1,List.getElem_append_left],by rw[g2,List.getElem_append_left]⟩
     ·have:i=n:=by omega
      subst this;refine ⟨f,hf,by rw[f1,List.getElem_append_left],?_⟩;rw[f2,List.getElem_append_right (by omega)];simp[hn]) [x] ⟨by simp,rfl,fun y hy=>by obtain rfl:=List.mem_singleton.1 hy;exact hx,fun i hi=>by simp at hi⟩
 exact ⟨r,e1,e2⟩
theorem chain_is(h:PlanOk p a b R0 R1 R2 I0 I1 most){l:List uT0}(hl:FsOk l){x:List UInt8}(hx:x∈lns)(b0 b1 b2 b3:Bool):∃ r,uF17a p l x 0 (prs b0 b1 b2 b3)=some r∧ChainR l x r:=by
 obtain ⟨r,e1,e2⟩:=chain_loop h hl hx (stm b0 b1 b2 b3,0);refine ⟨r,?_,e2⟩;have hm:uF55 0=some true:=rfl;simp only[uF17a,checkF_is h hl,Option.bind_some,bne_self_eq_false,cond_false,keyLn hx,Bool.not_true,hm,states_is,e1,lret]
end
theorem containsF_is(l:List uT0)(g:uT0→Option Bool)(p:uT0→Bool)(hg:∀ a∈l,g a=some (p a))(hl:l.length≤4611686018427387904):uF19 l g=some (l.any p):=by
 have hi:uF59 l g=some (idxI p l):=idxF_loop l g p hg hl;simp only[uF19,hi,Option.bind_some,bnd,idxI_any]
theorem walk_is{l:List uT0}(hl:FsOk l){x:List UInt8}{w:List (List UInt8)}(hw:Path l x w)(y22:uT1×List uT0)(hy:y22.2=l)(z:Int):loopO (fun s:Int=>uF4a y22 (w,z) s) 0=some (.inl ()):=by
 obtain ⟨h0,h5⟩:=hw.len
 have:=loop_for (N:=w.length) (step:=fun s:Int=>uF4a y22 (w,z) s) (fun k=>(k:Int)) (.inl ()) (fun k hk=>by
  have hd:(decide (((k:Nat):Int)<((w.length:Nat):Int)))=true:=by simpa using hk
  have hsub:sub w 0 (k:Int)=some (w.take k):=by
   unfold sub;rw[if_pos ⟨by omega,by omega,by omega⟩];simp
  have hcont:(w.take k).any (w[k]==·)=false:=by
   rw[List.any_eq_false];intro y hy;obtain ⟨j,hj,rfl⟩:=List.getElem_of_mem hy;rw[List.length_take] at hj;rw[List.getElem_take];have hne:=List.pairwise_iff_getElem.1 hw.nd j k (by omega) hk (by omega);simpa using fun e=>hne e.symm
  have wr:IntKind.wrap .i64 ((k:Int)+1)=((k+1:Nat):Int):=by rw[w64 (by omega) (by omega)];omega
  simp only[uF4a];rw[hd,hsub,idx_at hk,wr];simp only[cond_true,Option.bind_some];rw[contStr_is _ _ (by rw[List.length_take];omega),hcont];simp only[Option.bind_some,cond_false];by_cases hk0:0<k
  ·obtain ⟨j,rfl⟩:∃ j,k=j+1:=⟨k-1,by omega⟩
   have hd0:(decide (((j+1:Nat):Int) > 0))=true:=decide_eq_true (by omega);have hj:j<w.length:=by omega
   have wr2:IntKind.wrap .i64 (((j+1:Nat):Int)-1)=(j:Int):=by rw[w64 (by omega) (by omega)];omega
   have hc:=containsF_is y22.2 (fun a0=>uF20 a0 w ((j+1:Nat):Int)) (fun f=>f.Line==w[j]&&f.To==w[j+1]) (fun f _=>by
    simp only[uF20,wr2,idx_at hj,idx_at hk,Option.bind_some];cases f.Line==w[j]<;>rfl) (by rw[hy];have:=hl.1;omega)
   obtain ⟨f,hf,f1,f2⟩:=hw.ed j hk;have hany:y22.2.any (fun f=>f.Line==w[j]&&f.To==w[j+1])=true:=by
    rw[List.any_eq_true];exact ⟨f,by rw[hy];exact hf,by simp[f1,f2]⟩
   rw[hd0,hc,hany];rfl
  ·have hd0:(decide ((k:Int) > 0))=false:=by simp;omega
   rw[hd0];rfl) (by simp[uF4a])
 simpa using this
theorem law_ChainsEnd(l:List Int)(hl:l.length≤4611686018427387904):uF4c l=some true:=by
 have hs0:SOk ⟨l,0⟩ 0:=⟨hl,by simp,by simp⟩;obtain ⟨s1,p,a,b,R0,R1,R2,I0,I1,e1,hp,hs1⟩:=plan_is ⟨l,0⟩ 0 (by omega) (by omega) 0 hs0 (by omega);obtain ⟨s2,fs,e2,hf,hs2⟩:=forwards_is s1 _ hs1 (by omega);have e3:=circles_is hp hf;have e4:=circ_sorted hf;have hlen:((List.length (([([108,97]:List UInt8),([108,98]:List UInt8),([108,99]:List UInt8),([108,100]:List UInt8),([108,101]:List UInt8)]:List (List UInt8))):Nat):Int)=5:=rfl;obtain ⟨e,h1,h2⟩:=loopO_ind (step:=fun s:Int×uT1=>uF4b (s1,p) (s2,fs) (circC fs,0) s.1 s.2)
  (fun q=>0≤q.1∧q.1≤5∧SOk q.2 (300+4*q.1)) (fun e=>e=.inl ()) (fun q=>(5-q.1).toNat) (fun q hq=>by
   obtain ⟨i,s⟩:=q;obtain ⟨q0,q1,q2⟩:=hq;simp only[] at q0 q1 q2;simp only[uF4b,hlen];by_cases hlt:i<5
   ·obtain ⟨x,hx,hxm⟩:=idx_of (l:=lns) q0 (by simpa[lns] using hlt)
    have hx':idx ([([108,97]:List UInt8),([108,98]:List UInt8),([108,99]:List UInt8),([108,100]:List UInt8),([108,101]:List UInt8)]:List (List UInt8)) i=some x:=hx;obtain ⟨b0,b1,b2,b3,s',g1,g2⟩:=pairs_is s _ q2 (by omega);obtain ⟨⟨w,z⟩,c1,c2⟩:=chain_is hp hf hxm b0 b1 b2 b3;have wr:IntKind.wrap .i64 (i+1)=i+1:=w64 (by omega) (by omega);simp only[hlt,decide_true,cond_true,hx',Option.bind_some,g1,c1,wr];rcases c2 with ⟨z1,z2⟩|⟨z1,z2⟩
    ·simp only[] at z1
     subst z1;have e14:(((14:Int)==(14:Int))&&decide (((circC fs).length:Int) > 0))=true:=by rw[z2];rfl
     rw[e14];simp only[cond_true];exact .inr ⟨_,rfl,⟨by (try simp only[]);omega,by (try simp only[]);omega,g2.up (by (try simp only[]);omega)⟩,by (try simp only[]);omega⟩
    ·simp only[] at z1 z2
     subst z1;have e14:(((0:Int)==(14:Int))&&decide (((circC fs).length:Int) > 0))=false:=rfl;obtain ⟨h0,h5⟩:=z2.len;have en:(((0:Int) != (0:Int))||((w.length:Int)==(0:Int)))=false:=by simp;intro e;subst e;simp at h0
     have hi0:idx w 0=some x:=by rw[show (0:Int)=((0:Nat):Int) from rfl,idx_nat];exact z2.hd
     rw[e14,en];simp only[cond_false,hi0,Option.bind_some,beq_self_eq_true,Bool.not_true];rw[walk_is hf z2 (s2,fs) rfl 0];simp only[lret];exact .inr ⟨_,rfl,⟨by (try simp only[]);omega,by (try simp only[]);omega,g2.up (by (try simp only[]);omega)⟩,by (try simp only[]);omega⟩
   ·simp only[hlt,decide_false,cond_false]
    exact .inl ⟨_,rfl,rfl⟩) (0,s2) ⟨by simp,by simp,hs2.up (by (try simp only[]);omega)⟩
 subst h2;simp only[uF4c,e1,Option.bind_some,e2,e3,bne_self_eq_false,cond_false,e4,Bool.not_true,h1,lret,uF21]
end Go.Proofs.YtameabpbghichaaGreatDoor
