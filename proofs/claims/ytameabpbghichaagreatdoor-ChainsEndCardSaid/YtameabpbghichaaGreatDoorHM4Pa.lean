/-
  Dial plans: hours that are drawn are right; are they open.
-/
import Derived.Test.YtameabpbghichaaGreatDoorHM4PKa
namespace Go.Proofs.YtameabpbghichaaGreatDoor
open Go Go.Abs
set_option maxRecDepth 100000
set_option maxHeartbeats 1000000
theorem pick_in(s:uT1)(l:List Int)(k:Int)(hs:SOk s k)(hk:k≤1000000)(hl:0<l.length)(hl2:l.length≤1000):∃ r,uF100 s l=some (⟨s.L,s.at_+1⟩,r)∧r∈l:=by
 obtain ⟨r,e,r1,r2⟩:=next_is s l.length k hs (by omega) (by omega) (by omega);obtain ⟨x,hx,hm⟩:=idx_of r1 r2;exact ⟨x,by simp[uF100,e,hx],hm⟩
theorem flip_is(s:uT1)(n k:Int)(hs:SOk s k)(hk:k≤1000000)(h1:1≤n)(h2:n≤1000):∃ b,uF32 s n=some (⟨s.L,s.at_+1⟩,b):=by
 obtain ⟨r,e,r1,r2⟩:=next_is s n k hs (by omega) (by omega) (by omega);exact ⟨r==0,by simp[uF32,e,bnd]⟩
def RowOk(r:uT9):Prop:=1≤r.Days∧r.Days≤127∧0≤r.From∧r.From<r.To∧r.To≤1440
def HolOk(d:uT8):Prop:=0≤d.Day∧d.Day≤4000∧(d.From=0∧d.To=0∨0≤d.From∧d.From<d.To∧d.To≤1440)
def HGood(h:uT3):Prop:=-1440≤h.Zone∧h.Zone≤1440∧h.Rows.length≤2∧(∀ r∈h.Rows,RowOk r)∧h.Holidays.length≤3∧(∀ d∈h.Holidays,HolOk d)∧(h.Holidays.map (·.Day)).Pairwise (·<·)
theorem rows_is(y:uT1×Int)(hy:y.2≤2)(s0:uT1)(k:Int)(hs:SOk s0 k)(hk:k≤1000)(ky:List UInt8)(z:Int) :
  ∃ rows s',loopO (fun s:Int×uT3×uT1=>uF45a y s.1 s.2.1 s.2.2) (0,⟨ky,z,[],[]⟩,s0)=some (⟨ky,z,rows,[]⟩,s')∧rows.length≤2∧(∀ r∈rows,RowOk r)∧SOk s' (k+6):=by
 obtain ⟨e,h1,h2⟩:=loopO_ind (step:=fun s:Int×uT3×uT1=>uF45a y s.1 s.2.1 s.2.2)
  (fun q=>0≤q.1∧q.1≤2∧(∃ rows,q.2.1=⟨ky,z,rows,[]⟩∧(rows.length:Int)=q.1∧∀ r∈rows,RowOk r)∧SOk q.2.2 (k+3*q.1))
  (fun e=>(∃ rows,e.1=⟨ky,z,rows,[]⟩∧rows.length≤2∧∀ r∈rows,RowOk r)∧SOk e.2 (k+6)) (fun q=>(2-q.1).toNat) (fun q hq=>by
   obtain ⟨n,h,s⟩:=q;obtain ⟨q0,q1,⟨rows,rfl,q2,q3⟩,q4⟩:=hq;simp only[] at q0 q1 q2 q3 q4;simp only[uF45a];by_cases hlt:n<y.2
   ·obtain ⟨a,e1,a1⟩:=pick_in s [0,60,540,720] _ q4 (by omega) (by simp) (by simp)
    obtain ⟨b,e2,b1⟩:=pick_in ⟨s.L,s.at_+1⟩ [127,31,1,64,32,5] _ q4.one (by omega) (by simp) (by simp);obtain ⟨c,e3,c1⟩:=pick_in ⟨s.L,s.at_+1+1⟩ [1,60,300,720] _ q4.one.one (by omega) (by simp) (by simp);have a2:0≤a∧a≤720:=by simp at a1;omega
    have b2:1≤b∧b≤127:=by simp at b1;omega
    have c2:1≤c∧c≤720:=by simp at c1;omega
    refine .inr ⟨(n+1,⟨ky,z,rows++[⟨b,a,a+c⟩],[]⟩,⟨s.L,s.at_+1+1+1⟩),?_,⟨by (try simp only[]);omega,by (try simp only[]);omega,⟨_,rfl,by simp;omega,?_⟩,?_⟩,by (try simp only[]);omega⟩
    ·rw[e1];simp only[hlt,decide_true,cond_true,Option.bind_some]
     rw[e2];simp only[Option.bind_some];rw[e3];simp only[Option.bind_some];rw[app_of (by simp;omega) (by simp;omega),w64 (by omega) (by omega),w64 (by omega) (by omega)];rfl
    ·intro r hr
     rcases List.mem_append.1 hr with hr|hr
     ·exact q3 r hr
     ·simp at hr;subst hr
      exact ⟨b2.1,b2.2,a2.1,by (try simp only[]);omega,by (try simp only[]);omega⟩
    ·exact q4.one.one.one.up (by (try simp only[]);omega)
   ·exact .inl ⟨(⟨ky,z,rows,[]⟩,s),by simp[hlt],⟨rows,rfl,by omega,q3⟩,q4.up (by omega)⟩) (0,⟨ky,z,[],[]⟩,s0) ⟨by simp,by simp,⟨[],rfl,by simp,by simp⟩,by simpa using hs⟩
 obtain ⟨e1,e2⟩:=e;obtain ⟨⟨rows,rfl,h3,h4⟩,h5⟩:=h2;exact ⟨rows,e2,h1,h3,h4,h5⟩
def dayI(n:Int):Int:=if n=0 then 0 else if n=1 then 2 else 3
theorem hols_is(s0:uT1)(k:Int)(hs:SOk s0 k)(hk:k≤1000)(ky:List UInt8)(z:Int)(rows:List uT9) :
  ∃ hol s',loopO (fun s:Int×uT3×uT1=>uF45b s.1 s.2.1 s.2.2) (0,⟨ky,z,rows,[]⟩,s0)=some (⟨ky,z,rows,hol⟩,s')∧hol.length≤3∧(∀ d∈hol,HolOk d) ∧
   (hol.map (·.Day)).Pairwise (·<·)∧SOk s' (k+12):=by
 obtain ⟨e,h1,h2⟩:=loopO_ind (step:=fun s:Int×uT3×uT1=>uF45b s.1 s.2.1 s.2.2)
  (fun q=>0≤q.1∧q.1≤3∧(∃ hol,q.2.1=⟨ky,z,rows,hol⟩∧(hol.length:Int)≤q.1∧(∀ d∈hol,HolOk d)∧(hol.map (·.Day)).Pairwise (·<·)∧∀ d∈hol,q.1≤2→d.Day<dayI q.1)∧SOk q.2.2 (k+4*q.1))
  (fun e=>(∃ hol,e.1=⟨ky,z,rows,hol⟩∧hol.length≤3∧(∀ d∈hol,HolOk d)∧(hol.map (·.Day)).Pairwise (·<·))∧SOk e.2 (k+12)) (fun q=>(3-q.1).toNat) (fun q hq=>by
   obtain ⟨n,h,s⟩:=q;obtain ⟨q0,q1,⟨hol,rfl,q2,q3,q5,q6⟩,q4⟩:=hq;simp only[] at q0 q1 q2 q3 q4 q5 q6;simp only[uF45b];have hlen:((List.length (([(0:Int),(2:Int),(3:Int)]:List Int)):Nat):Int)=3:=rfl;rw[hlen];by_cases hlt:n<3
   ·have hday:idx ([0,2,3]:List Int) n=some (dayI n):=by
     rcases (by omega:n=0∨n=1∨n=2) with rfl|rfl|rfl<;>rfl
    have hd1:0≤dayI n∧dayI n≤3:=by unfold dayI;split<;>(try split)<;>omega
    have hd2:n+1≤2→dayI n<dayI (n+1):=by
     intro hn;rcases (by omega:n=0∨n=1) with rfl|rfl<;>decide
    obtain ⟨f1,e1⟩:=flip_is s 3 _ q4 (by omega) (by omega) (by omega);have add:∀ (a b:Int),(a=0∧b=0∨0≤a∧a<b∧b≤1440)→∃ hol',hol'=hol++[⟨dayI n,a,b⟩]∧(hol'.length:Int)≤n+1∧(∀ d∈hol',HolOk d)∧(hol'.map (·.Day)).Pairwise (·<·)∧∀ d∈hol',n+1≤2→d.Day<dayI (n+1):=by
     intro a b hab;refine ⟨_,rfl,by simp;omega,fun d hd=>?_,?_,fun d hd hn=>?_⟩
     ·rcases List.mem_append.1 hd with hd|hd
      ·exact q3 d hd
      ·simp at hd;subst hd;exact ⟨hd1.1,by (try simp only[]);omega,hab⟩
     ·rw[List.map_append,List.pairwise_append]
      refine ⟨q5,by simp,fun x hx y hy=>?_⟩;simp only[List.map_cons,List.map_nil,List.mem_singleton] at hy;subst hy;obtain ⟨d,hd,rfl⟩:=List.mem_map.1 hx;exact q6 d hd (by omega)
     ·rcases List.mem_append.1 hd with hd|hd
      ·have:=q6 d hd (by omega);have:=hd2 hn;omega
      ·simp at hd;subst hd;exact hd2 hn
    cases f1 with
    |false =>
     refine .inr ⟨(n+1,⟨ky,z,rows,hol⟩,⟨s.L,s.at_+1⟩),?_,⟨by (try simp only[]);omega,by (try simp only[]);omega,⟨hol,rfl,by (try simp only[]);omega,q3,q5,fun d hd hn=>?_⟩,q4.one.up (by (try simp only[]);omega)⟩,by (try simp only[]);omega⟩
     ·simp only[hlt,decide_true,cond_true,hday,Option.bind_some,e1,Bool.not_false]
      rw[w64 (by omega) (by omega)]
     ·simp only[] at hn;have:=q6 d hd (by omega);have:=hd2 hn;(try simp only[]);omega
    |true =>
     obtain ⟨f2,e2⟩:=flip_is ⟨s.L,s.at_+1⟩ 2 _ q4.one (by omega) (by omega) (by omega);cases f2 with
     |false =>
      obtain ⟨hol',he,p1,p2,p3,p4⟩:=add 0 0 (.inl ⟨rfl,rfl⟩);refine .inr ⟨(n+1,⟨ky,z,rows,hol'⟩,⟨s.L,s.at_+1+1⟩),?_,⟨by (try simp only[]);omega,by (try simp only[]);omega,⟨hol',rfl,p1,p2,p3,p4⟩,q4.one.one.up (by (try simp only[]);omega)⟩,by (try simp only[]);omega⟩;subst he;simp only[hlt,decide_true,cond_true,hday,Option.bind_some,e1,e2,Bool.not_true,cond_false];rw[app_of (by simp;omega) (by simp;omega),w64 (by omega) (by omega)];rfl
     |true =>
      obtain ⟨a,e3,a1⟩:=pick_in ⟨s.L,s.at_+1+1⟩ [0,540] _ q4.one.one (by omega) (by simp) (by simp);obtain ⟨b,e4,b1⟩:=pick_in ⟨s.L,s.at_+1+1+1⟩ [600,1440] _ q4.one.one.one (by omega) (by simp) (by simp);have a2:0≤a∧a≤540:=by simp at a1;omega
      have b2:600≤b∧b≤1440:=by simp at b1;omega
      obtain ⟨hol',he,p1,p2,p3,p4⟩:=add a b (.inr ⟨a2.1,by omega,by omega⟩);refine .inr ⟨(n+1,⟨ky,z,rows,hol'⟩,⟨s.L,s.at_+1+1+1+1⟩),?_,⟨by (try simp only[]);omega,by (try simp only[]);omega,⟨hol',rfl,p1,p2,p3,p4⟩,q4.one.one.one.one.up (by (try simp only[]);omega)⟩,by (try simp only[]);omega⟩;subst he;simp only[hlt,decide_true,cond_true,hday,Option.bind_some,e1,e2,e3,e4,Bool.not_true,cond_false];rw[app_of (by simp;omega) (by simp;omega),w64 (by omega) (by omega)];rfl
   ·exact .inl ⟨(⟨ky,z,rows,hol⟩,s),by simp[hlt],⟨hol,rfl,by omega,q3,q5⟩,q4.up (by omega)⟩) (0,⟨ky,z,rows,[]⟩,s0) ⟨by simp,by simp,⟨[],rfl,by simp,by simp,by simp,by simp⟩,by simpa using hs⟩
 obtain ⟨e1,e2⟩:=e;obtain ⟨⟨hol,rfl,h3,h4,h6⟩,h5⟩:=h2;exact ⟨hol,e2,h1,h3,h4,h6,h5⟩
theorem floor_is(x b:Int)(hb:1≤b)(h1 : -1000000000000≤x)(h2:x≤1000000000000)(h3:b≤1000000000):uF202 x b=some (x / b):=by
 have hb0:¬ b=0:=by omega
 have hq:=Int.mul_tdiv_add_tmod x b;have he:=Int.mul_ediv_add_emod x b;have hm1:0≤x % b:=Int.emod_nonneg _ (by omega);have hm2:x % b<b:=Int.emod_lt_of_pos _ (by omega);have hlt:x.tmod b<b:=Int.tmod_lt_of_pos _ (by omega);have hgt : -b<x.tmod b:=by
  have:=Int.tmod_lt_of_pos (-x) (b:=b) (by omega)
  rw[Int.neg_tmod] at this;omega
 have hbnd:∀ q r:Int,b*q+r=x → -b<r→r<b → -1000000000001≤q∧q≤1000000000001:=by
  intro q r e r1 r2;constructor
  ·rcases (by omega:q < -1000000000001 ∨ -1000000000001≤q) with hlt|hge
   ·have:b*q≤b*(-1000000000002):=Int.mul_le_mul_of_nonneg_left (by omega) (by omega)
    have h5:b*(-1000000000002) ≤ -1000000000002*1-(b-1)*1000000000002:=by omega
    omega
   ·exact hge
  ·rcases (by omega:1000000000001<q∨q≤1000000000001) with hlt|hge
   ·have:b*1000000000002≤b*q:=Int.mul_le_mul_of_nonneg_left (by omega) (by omega)
    omega
   ·exact hge
 have hb1:=hbnd _ _ hq hgt hlt;simp only[uF202,gquo,grem,hb0,if_false,Option.bind_some];rw[w64 (n:=x.tdiv b) (by omega) (by omega)];by_cases hneg:x.tmod b<0
 ·simp only[hneg,decide_true,cond_true,bnd,Option.bind_some]
  rw[w64 (n:=x.tdiv b-1) (by omega) (by omega)];congr 1;have e:x=(x.tmod b+b)+b*(x.tdiv b-1):=by rw[Int.mul_sub];omega
  have:x / b=x.tdiv b-1:=by
   conv=>lhs;rw[e]
   rw[Int.add_mul_ediv_left _ _ hb0,Int.ediv_eq_zero_of_lt (by omega) (by omega)];omega
  exact this.symm
 ·simp only[hneg,decide_false,cond_false,Option.bind_some]
  congr 1;have e:x=x.tmod b+b*x.tdiv b:=by omega
  have:x / b=x.tdiv b:=by
   conv=>lhs;rw[e]
   rw[Int.add_mul_ediv_left _ _ hb0,Int.ediv_eq_zero_of_lt (by omega) hlt];omega
  exact this.symm
noncomputable def opD(h:uT3)(day minute:Int):Option Bool :=
  lret (loopO (fun s:Int=>uF168 h day minute s) (0:Int)) (fun _=>(uF202 day (7:Int)).bind fun y78=>lret (loopO (fun s:Int=>uF168a h day minute y78 s) (0:Int)) (fun _=>some false) (fun r=>some r)) (fun r=>some r)
theorem opD_is(h:uT3)(hg:HGood h)(day minute:Int)(h1 : -100000≤day)(h2:day≤100000):∃ b,opD h day minute=some b:=by
 obtain ⟨_,_,r1,_,r2,_,_⟩:=hg;obtain ⟨e,e1,_⟩:=loopO_ind (step:=fun s:Int=>uF168 h day minute s) (fun q=>0≤q∧q≤h.Holidays.length) (fun _=>True) (fun q=>(h.Holidays.length-q).toNat) (fun q hq=>by
  obtain ⟨q0,q1⟩:=hq;simp only[uF168];by_cases hlt:q<h.Holidays.length
  ·obtain ⟨k,rfl⟩:=Int.eq_ofNat_of_zero_le q0
   have hk:k<h.Holidays.length:=by omega
   have hd:(decide (((k:Nat):Int)<(h.Holidays.length:Int)))=true:=by simp;exact hk
   rw[hd,idx_at hk];simp only[cond_true,Option.bind_some];cases hc:(h.Holidays[k].Day==day) with
   |true=>exact .inl ⟨_,rfl,trivial⟩
   |false =>
    simp only[cond_false];rw[w64 (by omega) (by omega)];exact .inr ⟨_,rfl,⟨by omega,by omega⟩,by omega⟩
  ·exact .inl ⟨.inl (),by simp[hlt],trivial⟩) 0 ⟨by omega,by omega⟩
 obtain ⟨f,f1,_⟩:=loopO_ind (step:=fun s:Int=>uF168a h day minute (day / 7) s) (fun q=>0≤q∧q≤h.Rows.length) (fun _=>True) (fun q=>(h.Rows.length-q).toNat) (fun q hq=>by
  obtain ⟨q0,q1⟩:=hq;simp only[uF168a];by_cases hlt:q<h.Rows.length
  ·obtain ⟨k,rfl⟩:=Int.eq_ofNat_of_zero_le q0
   have hk:k<h.Rows.length:=by omega
   have hd:(decide (((k:Nat):Int)<(h.Rows.length:Int)))=true:=by simp;exact hk
   rw[hd,idx_at hk];simp only[cond_true,Option.bind_some];rw[w64 (n:=7*(day / 7)) (by omega) (by omega),w64 (n:=day-7*(day / 7)) (by omega) (by omega)];have hn:¬ (day-7*(day / 7)<0):=by omega
   simp only[gshr,hn,if_false,Option.bind_some];generalize (((gand .i64 (h.Rows[k].Days.fdiv (2 ^ min (day-7*(day / 7)).toNat IntKind.i64.bits)) 1 != 0)&&decide (minute ≥ h.Rows[k].From))&&decide (minute<h.Rows[k].To))=c;cases c with
   |true=>exact .inl ⟨_,rfl,trivial⟩
   |false =>
    simp only[cond_false];rw[w64 (by omega) (by omega)];exact .inr ⟨_,rfl,⟨by omega,by omega⟩,by omega⟩
  ·exact .inl ⟨.inl (),by simp[hlt],trivial⟩) 0 ⟨by omega,by omega⟩
 unfold opD;rw[e1];match e with
 |.inr r=>exact ⟨r,rfl⟩
 |.inl _ =>
  simp only[lret,floor_is day 7 (by omega) (by omega) (by omega) (by omega),Option.bind_some,f1];match f with
  |.inr r=>exact ⟨r,rfl⟩
  |.inl _=>exact ⟨_,rfl⟩
noncomputable def op(h:uT3)(m:Int):Bool:=(opD h ((m+h.Zone) / 1440) ((m+h.Zone) % 1440)).getD false
theorem open_is(h:uT3)(hg:HGood h)(at_:Int)(h1:0≤at_)(h2:at_≤1000000000):uF168b h at_=some (op h (at_ / 60000)):=by
 obtain ⟨z1,z2,_⟩:=id hg;have e1:(at_+h.Zone*60000) / 86400000=(at_ / 60000+h.Zone) / 1440:=by omega
 have e2:(at_+h.Zone*60000-(at_+h.Zone*60000) / 86400000*86400000).tdiv 60000=(at_ / 60000+h.Zone) % 1440:=by
  rw[Int.tdiv_eq_ediv_of_nonneg (by omega)];omega
 obtain ⟨b,hb⟩:=opD_is h hg ((at_ / 60000+h.Zone) / 1440) ((at_ / 60000+h.Zone) % 1440) (by omega) (by omega);simp only[uF168b,bnd];rw[w64 (n:=h.Zone*60000) (by omega) (by omega),w64 (n:=at_+h.Zone*60000) (by omega) (by omega),floor_is _ _ (by omega) (by omega) (by omega) (by omega)];simp only[Option.bind_some];rw[w64 (n:=(at_+h.Zone*60000) / 86400000*86400000) (by omega) (by omega),w64 (n:=at_+h.Zone*60000-(at_+h.Zone*60000) / 86400000*86400000) (by omega) (by omega),e2,w64 (by omega) (by omega),e1];show opD h _ _=_;unfold op;rw[hb];rfl
theorem within_ok{n lo hi:Int}(h1:lo≤n)(h2:n≤hi):uF110 n lo hi=some true:=by
 have:uF110 n lo hi=some (decide (n ≥ lo)&&decide (n≤hi)):=rfl;rw[this];simp[h1,h2]
theorem time_ok{a b:Int}(h1:0≤a)(h2:a<b)(h3:b≤1440):uF216 a b=some true:=by
 have:uF216 a b=some ((decide (a ≥ 0)&&decide (a<b))&&decide (b≤1440)):=rfl;rw[this];simp[h1,h2,h3]
theorem times_is(h:uT3)(hg:HGood h):uF195b h=some 0:=by
 obtain ⟨_,_,r1,r2,o1,o2,o3⟩:=hg;have n1:(decide (((h.Rows.length:Nat):Int) > 50))=false:=by simp;omega
 have n2:(decide (((h.Holidays.length:Nat):Int) > 200))=false:=by simp;omega
 have l0:loopO (fun s:Int=>uF195 h s) 0=some (.inl ()):=by
  have:=loop_for (N:=h.Rows.length) (step:=fun s:Int=>uF195 h s) (fun k=>(k:Int)) (.inl ()) (fun k hk=>by
   obtain ⟨a1,a2,a3,a4,a5⟩:=r2 _ (List.getElem_mem hk);have hd:(decide (((k:Nat):Int)<(h.Rows.length:Int)))=true:=by simp;exact hk
   simp only[uF195];rw[hd,idx_at hk];simp only[cond_true,Option.bind_some,within_ok a1 a2,Bool.not_true,cond_false,time_ok a3 a4 a5];rw[w64 (by omega) (by omega)];rfl) (by simp[uF195])
  simpa using this
 have l1:loopO (fun s:Int=>uF195a h s) 0=some (.inl ()):=by
  have:=loop_for (N:=h.Holidays.length) (step:=fun s:Int=>uF195a h s) (fun k=>(k:Int)) (.inl ()) (fun k hk=>by
   obtain ⟨a1,a2,a3⟩:=o2 _ (List.getElem_mem hk);have hd:(decide (((k:Nat):Int)<(h.Holidays.length:Int)))=true:=by simp;exact hk
   have ht:(bif ((h.Holidays[k].From != (0:Int))||(h.Holidays[k].To != (0:Int))) then ((uF216 h.Holidays[k].From h.Holidays[k].To).bind fun y165=>some (!y165)) else (some false))=some false:=by
    rcases a3 with ⟨b1,b2⟩|⟨b1,b2,b3⟩
    ·rw[b1,b2];rfl
    ·rw[time_ok b1 b2 b3]
     cases ((h.Holidays[k].From != (0:Int))||(h.Holidays[k].To != (0:Int)))<;>rfl
   have prev:(bif (decide ((k:Int) > (0:Int))) then ((idx h.Holidays ((IntKind.wrap .i64 ((k:Int)-(1:Int))))).bind fun y205=>some ((decide (h.Holidays[k].Day≤y205.Day)))) else (some false))=some false:=by
    by_cases h0:k=0
    ·subst h0;simp
    ·have e:IntKind.wrap .i64 ((k:Int)-1)=((k-1:Nat):Int):=by rw[w64 (by omega) (by omega)];omega
     have hpos:(decide ((k:Int) > 0))=true:=by simp;omega
     have hle:=List.pairwise_iff_getElem.1 o3 (k-1) k (by simp;omega) (by simpa using hk) (by omega);simp only[List.getElem_map] at hle;rw[hpos,e,idx_at (by omega:k-1<h.Holidays.length)];simp only[cond_true,Option.bind_some];congr 1;simp;omega
   simp only[uF195a];rw[hd,idx_at hk];simp only[cond_true,Option.bind_some,within_ok a1 a2,Bool.not_true,cond_false];rw[ht];simp only[Option.bind_some,cond_false];rw[prev];simp only[Option.bind_some,cond_false];rw[w64 (by omega) (by omega)];rfl) (by simp[uF195a])
  simpa using this
 simp only[uF195b,n1,n2,cond_false,l0,l1,lret]
def kHa:List UInt8:=[104,97]
def kHb:List UInt8:=[104,98]
theorem hours1_is(s:uT1)(ky:List UInt8)(l:List uT3)(n k:Int)(hs:SOk s k)(hk:k≤500)(hl:l.length≤5)(h0:0≤n)(hn:n<2)(hky:idx ([([104,97]:List UInt8),([104,98]:List UInt8)]:List (List UInt8)) n=some ky) :
  ∃ h s',uF45 l n s=some (.inl (l++[h],n+1,s'))∧HGood h∧h.Key=ky∧SOk s' (k+20):=by
 obtain ⟨z,e1,z1⟩:=pick_in s [0,0,60,-90,1440] _ hs (by omega) (by simp) (by simp);have z2 : -1440≤z∧z≤1440:=by simp at z1;omega
 obtain ⟨m,e2,m1,m2⟩:=range_is ⟨s.L,s.at_+1⟩ 0 2 _ hs.one (by omega) (by omega) (by omega) (by omega);obtain ⟨rows,s2,e3,r1,r2,r3⟩:=rows_is (⟨s.L,s.at_+1+1⟩,m) m2 ⟨s.L,s.at_+1+1⟩ _ hs.one.one (by omega) ky z;obtain ⟨hol,s3,e4,o1,o2,o3,o4⟩:=hols_is s2 _ r3 (by omega) ky z rows;refine ⟨⟨ky,z,rows,hol⟩,s3,?_,⟨z2.1,z2.2,r1,r2,o1,o2,o3⟩,rfl,o4.up (by omega)⟩;have hlen:((List.length (([([104,97]:List UInt8),([104,98]:List UInt8)]:List (List UInt8))):Nat):Int)=2:=rfl;simp only[uF45,hlen,hn,decide_true,cond_true,hky,Option.bind_some,e1,e2,e3,e4];rw[app_of (by simp;omega) (by simp;omega),w64 (by omega) (by omega)];rfl
theorem hours2_is(s0:uT1)(k:Int)(hs:SOk s0 k)(hk:k≤100):∃ s' a b,uF45c s0=some (s',[a,b])∧HGood a∧a.Key=kHa∧HGood b∧b.Key=kHb∧SOk s' (k+40):=by
 obtain ⟨a,s1,e1,a1,a2,a3⟩:=hours1_is s0 [104,97] [] 0 k hs (by omega) (by simp) (by omega) (by omega) rfl;obtain ⟨b,s2,e2,b1,b2,b3⟩:=hours1_is s1 [104,98] [a] 1 _ a3 (by omega) (by simp) (by omega) (by omega) rfl;refine ⟨s2,a,b,?_,a1,a2,b1,b2,b3.up (by omega)⟩;have:loopO (fun s:List uT3×Int×uT1=>uF45 s.1 s.2.1 s.2.2) ([],0,s0)=some ([a,b],s2) :=
  (loop2 (s':=([a],1,s1)) e1).trans ((loop2 (s':=([a,b],2,s2)) e2).trans (loop3 (by simp[uF45])))
 simp only[uF45c,this,Option.bind_some]
theorem keyHa:uF54 kHa=some true:=by kernel_rfl
theorem keyHb:uF54 kHb=some true:=by kernel_rfl
theorem checkHours_is{a b:uT3}(ha:HGood a)(ka:a.Key=kHa)(hb:HGood b)(kb:b.Key=kHb):uF151a [a,b]=some 0:=by
 have hl:((List.length [a,b]:Nat):Int)=2:=rfl;have za:=within_ok ha.1 ha.2.1;have zb:=within_ok hb.1 hb.2.1;have e0:idx [a,b] 0=some a:=rfl;have e1:idx [a,b] 1=some b:=rfl;have s0:uF151 [a,b] 0=some (.inl 1):=by
  simp only[uF151,hl,e0,Option.bind_some,ka,keyHa,za,times_is a ha];rfl
 have s1:uF151 [a,b] 1=some (.inl 2):=by
  have e2:IntKind.wrap .i64 ((1:Int)-1)=0:=by decide
  simp only[uF151,hl,e1,e2,e0,Option.bind_some,ka,kb,keyHb,zb,times_is b hb];rfl
 have s2:uF151 [a,b] 2=some (.inr (.inl ())):=by simp[uF151]
 have:loopO (fun s:Int=>uF151 [a,b] s) 0=some (.inl ()):=(loop2 s0).trans ((loop2 s1).trans (loop3 s2));simp only[uF151a,hl,this,lret];rfl
def HK(k:List UInt8):Prop:=k=[]∨k=kHa∨k=kHb
theorem idxHours_is(l:List uT3)(g:uT3→Option Bool)(p:uT3→Bool)(hg:∀ a∈l,g a=some (p a))(hl:l.length≤4611686018427387904):uF166 l g=some (idxI p l):=idxF_loop l g p hg hl
theorem containsHours_is(l:List uT3)(g:uT3→Option Bool)(p:uT3→Bool)(hg:∀ a∈l,g a=some (p a))(hl:l.length≤4611686018427387904):uF154 l g=some (l.any p):=by
 simp only[uF154,idxHours_is l g p hg hl,Option.bind_some,bnd,idxI_any]
theorem idxCtx_is(l:List uT5)(g:uT5→Option Bool)(p:uT5→Bool)(hg:∀ a∈l,g a=some (p a))(hl:l.length≤4611686018427387904):uF178 l g=some (idxI p l):=idxF_loop l g p hg hl
theorem idxRule_is(l:List uT4)(g:uT4→Option Bool)(p:uT4→Bool)(hg:∀ a∈l,g a=some (p a))(hl:l.length≤4611686018427387904):uF102 l g=some (idxI p l):=idxF_loop l g p hg hl
theorem containsRule_is(l:List uT4)(g:uT4→Option Bool)(p:uT4→Bool)(hg:∀ a∈l,g a=some (p a))(hl:l.length≤4611686018427387904):uF48 l g=some (l.any p):=by
 simp only[uF48,idxRule_is l g p hg hl,Option.bind_some,bnd,idxI_any]
theorem contextAt_is(p:uT2)(k:List UInt8)(hl:p.Contexts.length≤1000):uF128 p k=some (idxI (fun c=>c.Key==k) p.Contexts):=by
 simp only[uF128,idxCtx_is p.Contexts (fun a0=>uF179 a0 k) (fun c=>c.Key==k) (fun _ _=>rfl) (by omega),Option.bind_some]
noncomputable def cnt(a b:uT3)(k:List UInt8)(at_:Int):Bool:=if k=[] then true else if k=kHa then op a (at_ / 60000) else op b (at_ / 60000)
theorem counts_is(p:uT2){a b:uT3}(hp:p.Hours=[a,b])(ha:HGood a)(ka:a.Key=kHa)(hb:HGood b)(kb:b.Key=kHb){k:List UInt8}(hk:HK k){at_:Int}(h1:0≤at_)(h2:at_≤1000000000) :
  uF116 p k at_=some (cnt a b k at_):=by
 have hi:=idxHours_is [a,b] (fun a0=>uF167 a0 k) (fun c=>c.Key==k) (fun _ _=>rfl) (by simp);rcases hk with rfl|rfl|rfl
 ·rfl
 ·have e:idxI (fun c:uT3=>c.Key==kHa) [a,b]=0:=by rw[idxI_cons];simp[ka]
  have n:(kHa==([]:List UInt8))=false:=rfl;simp only[uF116,n,cond_false,hp,hi,e,Option.bind_some,show idx [a,b] 0=some a from rfl,open_is a ha at_ h1 h2,cnt];rfl
 ·have e:idxI (fun c:uT3=>c.Key==kHb) [a,b]=1:=by rw[idxI_cons,idxI_cons];simp[ka,kb,kHa,kHb]
  have n:(kHb==([]:List UInt8))=false:=rfl;simp only[uF116,n,cond_false,hp,hi,e,Option.bind_some,show idx [a,b] 1=some b from rfl,open_is b hb at_ h1 h2,cnt];rfl
theorem hasHours_is(p:uT2){a b:uT3}(hp:p.Hours=[a,b])(ka:a.Key=kHa)(kb:b.Key=kHb){k:List UInt8}(hk:HK k):uF111 p k=some true:=by
 have hi:=containsHours_is [a,b] (fun a0=>uF155 a0 k) (fun c=>c.Key==k) (fun _ _=>rfl) (by simp);rcases hk with rfl|rfl|rfl
 ·rfl
 ·simp only[uF111,hp,hi,Option.bind_some]
  simp[ka,kHa]
 ·simp only[uF111,hp,hi,Option.bind_some]
  simp[ka,kb,kHa,kHb]
def RGood(r:uT4):Prop:=(∃ es t,PGood r.Pattern es t)∧(r.Strip=0∨r.Strip=1∨r.Strip=2)∧(r.Prefix=[]∨r.Prefix=[48]∨r.Prefix=[42,49])∧1≤r.To∧r.To≤6∧HK r.Hours ∧
  (if r.To=3∨r.To=4∨r.To=5 then r.Name=[109,97,105,110]∨r.Name=[104,101,108,112] else r.Name=[])
theorem rule_is(s0:uT1)(k:Int)(hs:SOk s0 k)(hk:k≤900):∃ s' r,uF47 s0=some (s',r)∧RGood r∧SOk s' (k+11):=by
 obtain ⟨s1,p,es,t,e1,p1,p2⟩:=pattern_is s0 k hs (by omega);obtain ⟨st,e2,st1⟩:=pick_in s1 [0,0,1,2] _ p2 (by omega) (by simp) (by simp);obtain ⟨px,e3,px1⟩:=some_in ⟨s1.L,s1.at_+1⟩ [[],[],[48],[42,49]] _ p2.one (by omega) (by simp) (by simp);obtain ⟨to,e4,to1,to2⟩:=range_is ⟨s1.L,s1.at_+1+1⟩ 1 6 _ p2.one.one (by omega) (by omega) (by omega) (by omega);obtain ⟨hr,e5,hr1⟩:=some_in ⟨s1.L,s1.at_+1+1+1⟩ [[],[],[104,97],[104,98]] _ p2.one.one.one (by omega) (by simp) (by simp);have hh:HK hr:=by
  simp only[List.mem_cons,List.not_mem_nil,or_false] at hr1;rcases hr1 with h|h|h|h
  ·exact .inl h
  ·exact .inl h
  ·exact .inr (.inl h)
  ·exact .inr (.inr h)
 have hst:st=0∨st=1∨st=2:=by simp at st1;omega
 have hpx:px=[]∨px=[48]∨px=[42,49]:=by
  simp only[List.mem_cons,List.not_mem_nil,or_false] at px1;rcases px1 with h|h|h|h
  ·exact .inl h
  ·exact .inl h
  ·exact .inr (.inl h)
  ·exact .inr (.inr h)
 by_cases ht:to=3∨to=4∨to=5
 ·obtain ⟨nm,e6,nm1⟩:=some_in ⟨s1.L,s1.at_+1+1+1+1⟩ [[109,97,105,110],[104,101,108,112]] _ p2.one.one.one.one (by omega) (by simp) (by simp)
  refine ⟨⟨s1.L,s1.at_+1+1+1+1+1⟩,⟨p,st,px,to,nm,hr⟩,?_,⟨⟨es,t,p1⟩,hst,hpx,to1,to2,hh,?_⟩,p2.one.one.one.one.one.up (by omega)⟩
  ·have hc:(decide (to ≥ 3)&&decide (to≤5))=true:=by simp;omega
   simp only[uF47,e1,e2,e3,e4,e5,e6,Option.bind_some,hc,cond_true]
  ·simp only[ht,if_true]
   simpa using nm1
 ·refine ⟨⟨s1.L,s1.at_+1+1+1+1⟩,⟨p,st,px,to,[],hr⟩,?_,⟨⟨es,t,p1⟩,hst,hpx,to1,to2,hh,?_⟩,p2.one.one.one.one.up (by omega)⟩
  ·have hc:(decide (to ≥ 3)&&decide (to≤5))=false:=by simp;omega
   simp only[uF47,e1,e2,e3,e4,e5,Option.bind_some,hc,cond_false]
  ·simp only[ht,if_false]
def same(r o:uT4):Bool:=o.Pattern==r.Pattern&&o.Hours==r.Hours
def LGood(l:List uT4)(most:Int):Prop:=(l.length:Int)≤most∧(∀ r∈l,RGood r)∧l.Pairwise fun x r=>same r x=false
theorem ctx_is(s0:uT1)(m most:Int)(hm:m≤most)(hm0:0≤m)(hm4:most≤4)(key:List UInt8)(k:Int)(hs:SOk s0 k)(hk:k≤600)(y:uT1×Int)(hy:y.2=m) :
  ∃ R s',loopO (fun s:Int×uT5×uT1=>uF13a y s.1 s.2.1 s.2.2) (0,⟨key,[],[]⟩,s0)=some (⟨key,R,[]⟩,s')∧LGood R most∧SOk s' (k+50):=by
 obtain ⟨e,h1,⟨R,h2,h3⟩,h4⟩:=loopO_ind (step:=fun s:Int×uT5×uT1=>uF13a y s.1 s.2.1 s.2.2)
  (fun q=>0≤q.1∧q.1≤m∧(∃ R,q.2.1=⟨key,R,[]⟩∧(R.length:Int)≤q.1∧LGood R most)∧SOk q.2.2 (k+12*q.1))
  (fun e=>(∃ R,e.1=⟨key,R,[]⟩∧LGood R most)∧SOk e.2 (k+50)) (fun q=>(m-q.1).toNat) (fun q hq=>by
   obtain ⟨n,c,s⟩:=q;obtain ⟨q0,q1,⟨R,rfl,q2,q3⟩,q4⟩:=hq;simp only[] at q0 q1 q2 q4;simp only[uF13a,hy];by_cases hlt:n<m
   ·obtain ⟨s1,r,e1,r1,r2⟩:=rule_is s _ q4 (by omega)
    have hc:=containsRule_is R (fun a0=>uF49 a0 r) (same r) (fun _ _=>rfl) (by omega);simp only[hlt,decide_true,cond_true,e1,Option.bind_some,hc];cases ha:R.any (same r) with
    |true =>
     simp only[Bool.not_true,cond_false];rw[w64 (by omega) (by omega)];exact .inr ⟨_,rfl,⟨by (try simp only[]);omega,by (try simp only[]);omega,⟨R,rfl,by (try simp only[]);omega,q3⟩,r2.up (by (try simp only[]);omega)⟩,by (try simp only[]);omega⟩
    |false =>
     simp only[Bool.not_false,cond_true];rw[w64 (by omega) (by omega),app_of (by simp;omega) (by simp;omega)];simp only[Option.bind_some];refine .inr ⟨_,rfl,⟨by (try simp only[]);omega,by (try simp only[]);omega,⟨R++[r],rfl,by simp;omega,by simp;omega,fun x hx=>?_,?_⟩,r2.up (by (try simp only[]);omega)⟩,by (try simp only[]);omega⟩
     ·rcases List.mem_append.1 hx with hx|hx
      ·exact q3.2.1 x hx
      ·simp at hx;subst hx;exact r1
     ·rw[List.pairwise_append]
      refine ⟨q3.2.2,by simp,fun x hx z hz=>?_⟩;simp at hz;subst hz
      have:=List.any_eq_false.1 ha x hx
      simpa using this
   ·simp only[hlt,decide_false,cond_false]
    exact .inl ⟨_,rfl,⟨R,rfl,q3⟩,q4.up (by (try simp only[]);omega)⟩) (0,⟨key,[],[]⟩,s0) ⟨by simp,by simpa using hm0,⟨[],rfl,by simp,by simp;omega,by simp,List.Pairwise.nil⟩,hs.up (by (try simp only[]);omega)⟩
 obtain ⟨c,s'⟩:=e;simp only[] at h2 h4;subst h2;exact ⟨R,s',h1,h3,h4⟩
def kca:List UInt8:=[99,97]
def kcb:List UInt8:=[99,98]
def kcc:List UInt8:=[99,99]
def keys3:List (List UInt8):=[[99,97],[99,98],[99,99]]
theorem plan1_is(s:uT1)(most:Int)(h0:0≤most)(h4:most≤4)(C:List uT5)(hC:C.length≤5)(H:List uT3)(n:Int)(n0:0≤n)(n3:n<3)(key:List UInt8)(hkey:idx keys3 n=some key)(k:Int)(hs:SOk s k)(hk:k≤500) :
  ∃ R s',uF13 most n ⟨C,H⟩ s=some (.inl (n+1,⟨C++[⟨key,R,[]⟩],H⟩,s'))∧LGood R most∧SOk s' (k+60):=by
 obtain ⟨m,e1,m1,m2⟩:=range_is s 0 most _ hs (by omega) h0 (by omega) (by omega);obtain ⟨R,s',e2,r1,r2⟩:=ctx_is ⟨s.L,s.at_+1⟩ m most m2 m1 h4 key _ hs.one (by omega) (⟨s.L,s.at_+1⟩,m) rfl;refine ⟨R,s',?_,r1,r2.up (by omega)⟩;have hl:((List.length (([([99,97]:List UInt8),([99,98]:List UInt8),([99,99]:List UInt8)]:List (List UInt8))):Nat):Int)=3:=rfl;have hkey:idx ([([99,97]:List UInt8),([99,98]:List UInt8),([99,99]:List UInt8)]:List (List UInt8)) n=some key:=hkey;simp only[uF13,hl,n3,decide_true,cond_true,hkey,Option.bind_some,e1,e2];rw[app_of (by simp;omega) (by simp;omega),w64 (by omega) (by omega)];rfl
def inc0:List (List (List UInt8)):=[[],[[99,98]],[[99,99],[99,98]],[[99,98],[99,99]]]
def inc1:List (List (List UInt8)):=[[],[[99,99]]]
structure PlanOk(p:uT2)(a b:uT3)(R0 R1 R2:List uT4)(I0 I1:List (List UInt8))(most:Int):Prop where
  p:p=⟨[⟨kca,R0,I0⟩,⟨kcb,R1,I1⟩,⟨kcc,R2,[]⟩],[a,b]⟩
  r0:LGood R0 most
  r1:LGood R1 most
  r2:LGood R2 most
  i0:I0∈inc0
  i1:I1∈inc1
  ha:HGood a
  ka:a.Key=kHa
  hb:HGood b
  kb:b.Key=kHb
  most:most≤4
theorem plan_is(s0:uT1)(most:Int)(h0:0≤most)(h4:most≤4)(k:Int)(hs:SOk s0 k)(hk:k≤100) :
  ∃ s' p a b R0 R1 R2 I0 I1,uF13b s0 most=some (s',p)∧PlanOk p a b R0 R1 R2 I0 I1 most∧SOk s' (k+230):=by
 obtain ⟨s1,a,b,e1,a1,a2,b1,b2,a3⟩:=hours2_is s0 k hs (by omega);obtain ⟨R0,s2,e2,r0,x0⟩:=plan1_is s1 most h0 h4 [] (by simp) [a,b] 0 (by omega) (by omega) kca rfl _ a3 (by omega);obtain ⟨R1,s3,e3,r1,x1⟩:=plan1_is s2 most h0 h4 [⟨kca,R0,[]⟩] (by simp) [a,b] 1 (by omega) (by omega) kcb rfl _ x0 (by omega);obtain ⟨R2,s4,e4,r2,x2⟩:=plan1_is s3 most h0 h4 [⟨kca,R0,[]⟩,⟨kcb,R1,[]⟩] (by simp) [a,b] 2 (by omega) (by omega) kcc rfl _ x1 (by omega);have hl:loopO (fun s:Int×uT2×uT1=>uF13 most s.1 s.2.1 s.2.2) (0,⟨[],[a,b]⟩,s1)=some (⟨[⟨kca,R0,[]⟩,⟨kcb,R1,[]⟩,⟨kcc,R2,[]⟩],[a,b]⟩,s4) :=
  (loop2 (s':=(1,⟨[⟨kca,R0,[]⟩],[a,b]⟩,s2)) e2).trans ((loop2 (s':=(2,⟨[⟨kca,R0,[]⟩,⟨kcb,R1,[]⟩],[a,b]⟩,s3)) e3).trans ((loop2 (s':=(3,⟨[⟨kca,R0,[]⟩,⟨kcb,R1,[]⟩,⟨kcc,R2,[]⟩],[a,b]⟩,s4)) e4).trans (loop3 (by simp[uF13]))))
 obtain ⟨n,e5,n1,n2⟩:=next_is s4 4 _ x2 (by omega) (by omega) (by omega);obtain ⟨m,e6,m1,m2⟩:=next_is ⟨s4.L,s4.at_+1⟩ 2 _ x2.one (by omega) (by omega) (by omega);obtain ⟨I0,f0,g0⟩:=idx_of (l:=inc0) n1 (by simpa[inc0] using n2);obtain ⟨I1,f1,g1⟩:=idx_of (l:=inc1) m1 (by simpa[inc1] using m2);unfold inc0 at f0;unfold inc1 at f1;refine ⟨⟨s4.L,s4.at_+1+1⟩,⟨[⟨kca,R0,I0⟩,⟨kcb,R1,I1⟩,⟨kcc,R2,[]⟩],[a,b]⟩,a,b,R0,R1,R2,I0,I1,?_,⟨rfl,r0,r1,r2,g0,g1,a1,a2,b1,b2,h4⟩,x2.one.one.up (by omega)⟩;simp only[uF13b,e1,Option.bind_some,hl,e5,f0,e6,f1,bnd];rfl
theorem idxStr_is(l:List (List UInt8))(x:List UInt8)(hl:l.length≤4611686018427387904):uF58 l x=some (idxI (x==·) l):=idxE_loop l x hl
theorem contStr_is(l:List (List UInt8))(x:List UInt8)(hl:l.length≤4611686018427387904):uF18 l x=some (l.any (x==·)):=by
 simp only[uF18,idxStr_is l x hl,Option.bind_some,bnd,idxI_any]
theorem prefix_ok{px:List UInt8}(h:px=[]∨px=[48]∨px=[42,49]):uF136 px 0=some true:=by
 rcases h with rfl|rfl|rfl<;>kernel_rfl
theorem name_ok{nm:List UInt8}(h:nm=[109,97,105,110]∨nm=[104,101,108,112]):uF54 nm=some true:=by
 rcases h with rfl|rfl<;>kernel_rfl
theorem within_k{n lo hi:Int}(h1:lo≤n)(h2:n≤hi):uF110 n lo hi=some true:=within_ok h1 h2
section
variable {p:uT2} {a b:uT3}
theorem checkRule_is(hp:p.Hours=[a,b])(ka:a.Key=kHa)(kb:b.Key=kHb)(key:List UInt8)(I:List (List UInt8)){R:List uT4}(hR:LGood R 4){i:Nat}(hi:i<R.length) :
  uF196a p ⟨key,R,I⟩ (i:Int)=some 0:=by
 obtain ⟨l1,l2,l3⟩:=hR;obtain ⟨⟨es,t,h1⟩,h2,h3,h4,h5,h6,h7⟩:=l2 _ (List.getElem_mem hi);have e1:uF217 R[i].Pattern=some 0:=by simp only[uF217,read_is h1,Option.bind_some]
 have e2:=within_k (n:=R[i].Strip) (lo:=0) (hi:=30) (by omega) (by omega);have e3:=prefix_ok h3;have e4:=within_k h4 h5;have e5:uF218 R[i].To=some ((R[i].To==3||R[i].To==4)||R[i].To==5):=rfl;have e6:=hasHours_is p hp ka kb h6;have e7:sub R 0 (i:Int)=some (R.take i):=by
  unfold sub;rw[if_pos ⟨by omega,by omega,by omega⟩];simp
 have e8:loopO (fun s:Int=>uF196 R[i] (R.take i) s) 0=some (.inl ()):=by
  have hlen:(R.take i).length=i:=by simp;omega
  have:=loop_for (N:=(R.take i).length) (step:=fun s:Int=>uF196 R[i] (R.take i) s) (fun k=>(k:Int)) (.inl ()) (fun k hk=>by
   have hd:(decide (((k:Nat):Int)<(((R.take i).length:Nat):Int)))=true:=by simpa using hk
   have hk2:k<i:=by omega
   have hne:=List.pairwise_iff_getElem.1 l3 k i (by omega) hi hk2;unfold same at hne;have hg:(R.take i)[k]=R[k]:=by simp
   simp only[uF196];rw[hd,idx_at hk,hg];have hne2:(R[k].Pattern==R[i].Pattern&&R[k].Hours==R[i].Hours)=false:=by
    rw[← hne]
   simp only[cond_true,Option.bind_some,hne2,cond_false];rw[w64 (by omega) (by omega)];rfl) (by simp[uF196])
  simpa using this
 simp only[uF196a,idx_at hi,Option.bind_some,e1,bne_self_eq_false,cond_false,e2,Bool.not_true,e3,e4,e5];by_cases ht:R[i].To=3∨R[i].To=4∨R[i].To=5
 ·have hb:((R[i].To==3||R[i].To==4)||R[i].To==5)=true:=by simp;omega
  simp only[ht,if_true] at h7;simp only[hb,cond_true,name_ok h7,Option.bind_some,Bool.not_true,cond_false,bnd,Bool.false_and,e6,e7,e8,lret]
 ·have hb:((R[i].To==3||R[i].To==4)||R[i].To==5)=false:=by simp;omega
  simp only[ht,if_false] at h7;simp only[hb,cond_false,Option.bind_some,bnd,Bool.not_false,h7,beq_self_eq_true,Bool.not_true,Bool.and_false,e6,e7,e8,lret]
theorem rules_ok(hp:p.Hours=[a,b])(ka:a.Key=kHa)(kb:b.Key=kHb)(key:List UInt8)(I:List (List UInt8)){R:List uT4}(hR:LGood R 4) :
  loopO (fun s:Int=>uF152a p ⟨key,R,I⟩ s) 0=some (.inl ()):=by
 have hl:=hR.1
 have:=loop_for (N:=R.length) (step:=fun s:Int=>uF152a p ⟨key,R,I⟩ s) (fun k=>(k:Int)) (.inl ()) (fun k hk=>by
  have hd:(decide (((k:Nat):Int)<((R.length:Nat):Int)))=true:=by simpa using hk
  simp only[uF152a];rw[hd];simp only[cond_true,checkRule_is hp ka kb key I hR hk,Option.bind_some,bne_self_eq_false,cond_false];rw[w64 (by omega) (by omega)];rfl) (by simp[uF152a])
 simpa using this
theorem incs_ok(key:List UInt8)(R:List uT4){I:List (List UInt8)}(hI:I∈inc0∨I∈inc1):loopO (fun s:Int=>uF152b ⟨key,R,I⟩ s) 0=some (.inl ()):=by
 have hn:I.length≤2∧I.Pairwise fun x r=>(r==x)=false:=by
  simp only[inc0,inc1,List.mem_cons,List.not_mem_nil,or_false] at hI;rcases hI with (rfl|rfl|rfl|rfl)|(rfl|rfl)<;>simp
 obtain ⟨n1,n2⟩:=hn
 have:=loop_for (N:=I.length) (step:=fun s:Int=>uF152b ⟨key,R,I⟩ s) (fun k=>(k:Int)) (.inl ()) (fun k hk=>by
  have hd:(decide (((k:Nat):Int)<((I.length:Nat):Int)))=true:=by simpa using hk
  have e7:sub I 0 (k:Int)=some (I.take k):=by
   unfold sub;rw[if_pos ⟨by omega,by omega,by omega⟩];simp
  have hc:(I.take k).any (I[k]==·)=false:=by
   rw[List.any_eq_false];intro x hx;obtain ⟨j,hj,rfl⟩:=List.mem_iff_getElem.1 hx;have hj2:j<k:=by simp at hj;omega
   have:=List.pairwise_iff_getElem.1 n2 j k (by omega) hk hj2
   simpa using this
  simp only[uF152b];rw[hd,idx_at hk];simp only[cond_true,Option.bind_some,e7];rw[contStr_is _ _ (by simp;omega),hc];simp only[Option.bind_some,cond_false];rw[w64 (by omega) (by omega)];rfl) (by simp[uF152b])
 simpa using this
end
/- Twins that the kernel can run. -/
section
variable {α σ S E:Type}
theorem foldE_le{f g:Nat→α→S→Option (S⊕E)}{fin:S→E}(h:∀ i a s r,f i a s=some r→g i a s=some r):∀ (l:List α) (i:Nat) (s:S) (e:E),foldE f fin i l s=some e→foldE g fin i l s=some e
 |[],_,_,_,he=>he
 |a::l,i,s,e,he=>by
  simp only[foldE] at he ⊢
  cases hf:f i a s with
  |none=>rw[hf] at he;simp at he
  |some r =>
   rw[hf] at he
   rw[h i a s r hf]
   cases r with
   |inl s'=>exact foldE_le h l (i+1) s' e he
   |inr x=>exact he
end
def gd(b:Bool):Option Unit:=if b then some () else none
theorem gd_bind{α:Type}{b:Bool}{k:Option α}{r:α}(h:((gd b).bind fun _=>k)=some r):b=true∧k=some r:=by
 unfold gd at h;cases b
 ·simp at h
 ·exact ⟨rfl,by simpa using h⟩
def atC(p:uT2)(k:List UInt8):Int:=idxI (fun c=>c.Key==k) p.Contexts
def rFold(rc:Int→List Int→uT2→Option (List Int×Bool))(p:uT2):Nat→List UInt8→List Int→Option (List Int⊕(List Int⊕(List Int×Bool))):=fun _ a st=>(rc (atC p a) st p).bind fun z=>bif z.2 then some (.inr (.inr (z.1,true))) else some (.inl z.1)
theorem ring_fold(rc:Int→List Int→uT2→Option (List Int×Bool))(p:uT2)(c:uT5)(st:List Int)(h1:p.Contexts.length≤1000)(h2:c.Includes.length≤1000) :
  loopO (fun s:Int×List Int=>uF153 rc p c s.1 s.2) (0,st)=foldE (rFold rc p) (fun st=>.inl st) 0 c.Includes st:=by
 refine loop_list c.Includes (fun i st=>((i:Int),st)) _ _ (fun i a s hi=>?_) (fun s=>?_) st
 ·have hlt:=(List.getElem?_eq_some_iff.1 hi).1
  have hd:(decide (((i:Nat):Int)<(c.Includes.length:Int)))=true:=by simpa using hlt
  simp only[uF153,hd,cond_true,idx_nat,hi,Option.bind_some,contextAt_is p a h1,rFold,atC];cases rc (idxI (fun c=>c.Key==a) p.Contexts) s p with
  |none=>rfl
  |some z =>
   simp only[Option.bind_some];cases z.2
   ·simp only[cond_false];rw[w64 (by omega) (by omega)];rfl
   ·rfl
 ·simp[uF153]
def C196:Nat→Int→List Int→uT2→Option (List Int×Bool)
  |0,_,_,_=>none
  |n+1,x0,x1,x2=>(idx x1 x0).bind fun y5=>bif (decide (y5 > (0:Int))) then some (x1,y5==1) else (idx x2.Contexts x0).bind fun c=>(gd (decide (x2.Contexts.length≤1000)&&decide (c.Includes.length≤1000))).bind fun _ =>
      (foldE (rFold (C196 n) x2) (fun st=>(.inl st:List Int⊕(List Int×Bool))) 0 c.Includes (x1.set x0.toNat 1)).bind fun r=>match r with
        |.inl st=>(idx st x0).bind fun _=>some (st.set x0.toNat 2,false)
        |.inr r=>some r
theorem c196_le:∀ (n:Nat) (x0:Int) (x1:List Int) (x2:uT2) (r:List Int×Bool),C196 n x0 x1 x2=some r→uF153a n x0 x1 x2=some r
 |0,_,_,_,_,h=>by simp[C196] at h
 |n+1,x0,x1,x2,r,h=>by
  show uF153b (uF153a n) x0 x1 x2=some r
  unfold C196 at h
  unfold uF153b
  cases h1:idx x1 x0 with
  |none=>rw[h1] at h;simp at h
  |some y =>
   rw[h1] at h
   simp only[Option.bind_some,bnd] at h ⊢
   cases hy:decide (y > 0) with
   |true=>rw[hy] at h;exact h
   |false =>
    rw[hy] at h
    simp only[cond_false] at h ⊢
    cases h2:idx x2.Contexts x0 with
    |none=>rw[h2] at h;simp at h
    |some c =>
     rw[h2] at h
     simp only[Option.bind_some] at h ⊢
     obtain ⟨g1,h⟩:=gd_bind h
     simp only[Bool.and_eq_true,decide_eq_true_eq] at g1
     rw[ring_fold _ _ _ _ g1.1 g1.2]
     cases h3:foldE (rFold (C196 n) x2) (fun st=>(.inl st:List Int⊕(List Int×Bool))) 0 c.Includes (x1.set x0.toNat 1) with
     |none=>rw[h3] at h;simp at h
     |some q =>
      rw[foldE_le (fun i a s r hr=>?_) _ _ _ _ h3]
      ·rw[h3] at h
       cases q<;>exact h
      ·unfold rFold at hr ⊢
       cases h4:C196 n (atC x2 a) s x2 with
       |none=>rw[h4] at hr;simp at hr
       |some z=>rw[h4] at hr;rw[c196_le n _ _ _ _ h4];exact hr
theorem keyCa:uF54 kca=some true:=by kernel_rfl
theorem keyCb:uF54 kcb=some true:=by kernel_rfl
theorem keyCc:uF54 kcc=some true:=by kernel_rfl
section
variable {p:uT2} {a b:uT3} {R0 R1 R2:List uT4} {I0 I1:List (List UInt8)} {most:Int}
theorem LGood.up{R:List uT4}{m n:Int}(h:LGood R m)(e:m≤n):LGood R n:=⟨by have:=h.1;omega,h.2⟩
theorem ctxs_ok(h:PlanOk p a b R0 R1 R2 I0 I1 most):loopO (fun s:Int=>uF109 p s) 0=some (.inl ()):=by
 obtain ⟨rfl,r0,r1,r2,i0,i1,_,ka,_,kb,h4⟩:=h;have len (R:List uT4) (h:LGood R 4):(decide (((R.length:Nat):Int) > 200))=false:=by have:=h.1;simp;omega
 have lI (I:List (List UInt8)) (h:I∈inc0∨I∈inc1):(decide (((I.length:Nat):Int) > 10))=false:=by
  simp only[inc0,inc1,List.mem_cons,List.not_mem_nil,or_false] at h;rcases h with (rfl|rfl|rfl|rfl)|(rfl|rfl)<;>rfl
 have r0:=r0.up h4;have r1:=r1.up h4;have r2:=r2.up h4;have c0:uF152 ⟨[⟨kca,R0,I0⟩,⟨kcb,R1,I1⟩,⟨kcc,R2,[]⟩],[a,b]⟩ 0=some 0:=by
  simp only[uF152,show ∀ x y:uT5,idx [⟨kca,R0,I0⟩,x,y] 0=some ⟨kca,R0,I0⟩ from fun _ _=>rfl,Option.bind_some,keyCa,Bool.not_true,cond_false,show decide ((0:Int) > 0)=false from rfl,bnd,len R0 r0];rw[rules_ok rfl ka kb kca I0 r0];simp only[lret,lI I0 (.inl i0),cond_false];rw[incs_ok kca R0 (.inl i0)]
 have c1:uF152 ⟨[⟨kca,R0,I0⟩,⟨kcb,R1,I1⟩,⟨kcc,R2,[]⟩],[a,b]⟩ 1=some 0:=by
  have e:IntKind.wrap .i64 ((1:Int)-1)=0:=by decide
  have hlt:(Op.bytesLess kcb kca||kcb==kca)=false:=by kernel_rfl
  simp only[uF152,show ∀ x y:uT5,idx [x,⟨kcb,R1,I1⟩,y] 1=some ⟨kcb,R1,I1⟩ from fun _ _=>rfl,Option.bind_some,keyCb,Bool.not_true,cond_false,show decide ((1:Int) > 0)=true from rfl,cond_true,e,
   show ∀ x y:uT5,idx [⟨kca,R0,I0⟩,x,y] 0=some ⟨kca,R0,I0⟩ from fun _ _=>rfl,hlt,bnd,len R1 r1]
  rw[rules_ok rfl ka kb kcb I1 r1];simp only[lret,lI I1 (.inr i1),cond_false];rw[incs_ok kcb R1 (.inr i1)]
 have c2:uF152 ⟨[⟨kca,R0,I0⟩,⟨kcb,R1,I1⟩,⟨kcc,R2,[]⟩],[a,b]⟩ 2=some 0:=by
  have e:IntKind.wrap .i64 ((2:Int)-1)=1:=by decide
  have hlt:(Op.bytesLess kcc kcb||kcc==kcb)=false:=by kernel_rfl
  simp only[uF152,show ∀ x y:uT5,idx [x,y,⟨kcc,R2,[]⟩] 2=some ⟨kcc,R2,[]⟩ from fun _ _=>rfl,Option.bind_some,keyCc,Bool.not_true,cond_false,show decide ((2:Int) > 0)=true from rfl,cond_true,e,
   show ∀ x y:uT5,idx [x,⟨kcb,R1,I1⟩,y] 1=some ⟨kcb,R1,I1⟩ from fun _ _=>rfl,hlt,bnd,len R2 r2]
  rw[rules_ok rfl ka kb kcc [] r2];simp only[lret,lI [] (.inr (by simp[inc1])),cond_false];rw[incs_ok kcc R2 (.inr (by simp[inc1]))]
 have st (i:Int) (h0:0≤i) (h3:i<3) (hc:uF152 ⟨[⟨kca,R0,I0⟩,⟨kcb,R1,I1⟩,⟨kcc,R2,[]⟩],[a,b]⟩ i=some 0):uF109 ⟨[⟨kca,R0,I0⟩,⟨kcb,R1,I1⟩,⟨kcc,R2,[]⟩],[a,b]⟩ i=some (.inl (i+1)):=by
  have hd:(decide (i<((List.length [(⟨kca,R0,I0⟩:uT5),⟨kcb,R1,I1⟩,⟨kcc,R2,[]⟩]:Nat):Int)))=true:=by simpa using h3
  simp only[uF109,hd,cond_true,hc,Option.bind_some,bne_self_eq_false,cond_false];rw[w64 (by omega) (by omega)]
 exact (loop2 (st 0 (by omega) (by omega) c0)).trans ((loop2 (st 1 (by omega) (by omega) c1)).trans ((loop2 (st 2 (by omega) (by omega) c2)).trans (loop3 (by simp[uF109]))))
end
end Go.Proofs.YtameabpbghichaaGreatDoor
