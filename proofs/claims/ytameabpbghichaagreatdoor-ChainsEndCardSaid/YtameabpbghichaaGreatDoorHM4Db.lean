/-
  Circles: the lines that one line comes to, and whether it comes to itself.
-/
import Derived.Test.YtameabpbghichaaGreatDoorHM4Da
namespace Go.Proofs.YtameabpbghichaaGreatDoor
open Go Go.Abs Go.Abs.Sh
set_option maxRecDepth 100000
set_option maxHeartbeats 8000000
def seenC(m:List (List UInt8×Bool))(y:List UInt8):Prop:=(mget m y).getD false=true
structure bfsC(l:List uT0)(x:List UInt8)(m:List (List UInt8×Bool))(q:List (List UInt8)):Prop where
  s:∀ y,seenC m y→ReachC l x y
  qs:∀ y∈q,ReachC l x y
  c:∀ y∈toC l x,y∈q∨seenC m y
  d:∀ y,seenC m y→∀ z∈toC l y,z∈q∨seenC m z
theorem bfs_end{l:List uT0}{x:List UInt8}{m:List (List UInt8×Bool)}(h:bfsC l x m [])(y:List UInt8):seenC m y↔ReachC l x y:=by
  refine ⟨h.s y,fun r=>?_⟩
  induction r with
  |one k=>exact (h.c _ k).resolve_left (by simp)
  |more _ k ih=>exact (h.d _ ih _ k).resolve_left (by simp)
theorem bfs_ini(l:List uT0)(x:List UInt8):bfsC l x [] (toC l x) :=
  ⟨fun y h=>by simp[seenC,mget] at h,fun y h=>.one h,fun y h=>.inl h,fun y h=>by simp[seenC,mget] at h⟩
theorem bfs_old{l:List uT0}{x a:List UInt8}{m:List (List UInt8×Bool)}{q:List (List UInt8)}(h:bfsC l x m (a::q))(ha:seenC m a):bfsC l x m q:=by
  have key:∀ y,y∈a::q∨seenC m y→y∈q∨seenC m y:=fun y hy=>by
    rcases hy with hy|hy
    · rcases List.mem_cons.1 hy with e|hy
      · exact .inr (e ▸ ha)
      · exact .inl hy
    · exact .inr hy
  exact ⟨h.s,fun y hy=>h.qs y (List.mem_cons_of_mem _ hy),fun y hy=>key y (h.c y hy),fun y hy z hz=>key z (h.d y hy z hz)⟩
theorem seen_put{m:List (List UInt8×Bool)}{a y:List UInt8}:seenC (mput m a true) y↔seenC m y∨y=a:=by
  unfold seenC
  rw[mget_mput]
  by_cases e:a=y
  · subst e;simp
  · have e':¬ y=a:=fun q=>e q.symm
    simp[e,e']
theorem bfs_new{l:List uT0}{x a:List UInt8}{m:List (List UInt8×Bool)}{q:List (List UInt8)}(h:bfsC l x m (a::q)):bfsC l x (mput m a true) (q++toC l a):=by
  have key:∀ y,y∈a::q∨seenC m y→y∈q++toC l a∨seenC (mput m a true) y:=fun y hy=>by
    rw[seen_put,List.mem_append]
    rcases hy with hy|hy
    · rcases List.mem_cons.1 hy with e|hy
      · exact .inr (.inr e)
      · exact .inl (.inl hy)
    · exact .inr (.inl hy)
  have ra:ReachC l x a:=h.qs a (List.mem_cons_self ..)
  refine ⟨fun y hy=>?_,fun y hy=>?_,fun y hy=>key y (h.c y hy),fun y hy z hz=>?_⟩
  · rcases seen_put.1 hy with hy|rfl
    · exact h.s y hy
    · exact ra
  · rcases List.mem_append.1 hy with hy|hy
    · exact h.qs y (List.mem_cons_of_mem _ hy)
    · exact .more ra hy
  · rcases seen_put.1 hy with hy|rfl
    · exact key z (h.d y hy z hz)
    · exact .inl (List.mem_append_right _ hz)
theorem reach_to{l:List uT0}{x y:List UInt8}(h:ReachC l x y):y∈l.map (·.To):=by
  have key:∀ x,y∈toC l x→y∈l.map (·.To):=fun x h=>by
    unfold toC at h
    obtain ⟨f,hf,rfl⟩:=List.mem_map.1 h
    exact List.mem_map_of_mem ((List.mem_filter.1 hf).1)
  cases h with
  |one h=>exact key _ h
  |more _ h=>exact key _ h
def unsC(l:List uT0)(m:List (List UInt8×Bool)):Nat:=((l.map (·.To)).filter fun t=>!(mget m t).getD false).length
def meaC(l:List uT0)(m:List (List UInt8×Bool))(q:List (List UInt8)):Nat:=q.length+unsC l m*(l.length+1)
theorem uns_le(l:List uT0)(m:List (List UInt8×Bool)):unsC l m≤l.length:=by
  unfold unsC
  have:=List.length_filter_le (fun t=>!(mget m t).getD false) (l.map (·.To))
  rwa [List.length_map] at this
theorem uns_lt{l:List uT0}{m:List (List UInt8×Bool)}{a:List UInt8}(ha:a∈l.map (·.To))(hn:¬ seenC m a):unsC l (mput m a true)<unsC l m:=by
  unfold unsC
  have h1:((l.map (·.To)).filter fun t=>!(mget (mput m a true) t).getD false)=((l.map (·.To)).filter fun t=>!(mget m t).getD false).filter fun t=>!(t==a):=by
    rw[List.filter_filter]
    congr 1
    funext t
    rw[mget_mput]
    by_cases e:a=t
    · subst e;simp
    · have e':¬ t=a:=fun q=>e q.symm
      simp[e,e']
  rw[h1]
  refine List.length_filter_lt_length_iff_exists.2 ⟨a,List.mem_filter.2 ⟨ha,?_⟩,by simp⟩
  unfold seenC at hn
  simpa using hn
theorem mea_new{l:List uT0}{m:List (List UInt8×Bool)}{a:List UInt8}{q:List (List UInt8)}(ha:a∈l.map (·.To))(hn:¬ seenC m a):meaC l (mput m a true) (q++toC l a)<meaC l m (a::q):=by
  unfold meaC
  have h1:=uns_lt ha hn
  have h2:=toC_len l a
  have h3:(unsC l (mput m a true)+1)*(l.length+1)≤unsC l m*(l.length+1):=Nat.mul_le_mul_right _ h1
  rw[Nat.succ_mul] at h3
  simp only[List.length_append,List.length_cons]
  omega
theorem sub_tail{α:Type}(a:α)(q:List α):sub (a::q) 1 ((a::q).length:Int)=some q:=by
  unfold sub
  rw[if_pos ⟨by omega,by simp only[List.length_cons];omega,by omega⟩]
  simp
/-- What holds before each round. -/
def bfsI(x1:List uT0)(x:List UInt8)(a12:AC)(σ:Sl)(hp:Heap)(n:Nat)(σ':Sl)(hp':Heap)(_:Nat):Prop :=
  ∃ (m:List (List UInt8×Bool)) (q:List (List UInt8)) (a13:AC),meaC x1 m q=n∧n≤200000000∧σ' 12=.v (.c a12)∧σ' 13=.v (.c a13)∧mpB 46 SK.str IV.bool hp' a12 m∧so [50,69] Rep.str true hp' a13 q∧bfsC x1 x m q∧Keep [10,12,13,14] 46 76 σ σ'∧Fr [46,50,69] hp hp'
section
variable {X:Run} [Up (xRun kx) X]
theorem c_bfs{x1:List uT0}(hlen:x1.length≤10000){σ:Sl}{hp:Heap}{ct g clk:Nat}{es:List Ent}{a10:AC}{out:List (List UInt8)}{x:List UInt8}
    (f7:σ 7=.v (.c (.r (.map 21 g)))) (f10:σ 10=.v (.c a10)) (f11:σ 11=V (.str x)) (hm:mapS (fun b=>1000<b) hp 21 g es clk (toM x1)) (h10:so [76] Rep.str true hp a10 out) (hout:out.length≤100000) (hnil:out=[]→a10=I .nilS) :
    wpE tabs (L X) 80 irB15_3 σ hp ct (fun ex σ' hp' _=>ex=.normal∧Keep [10,12,13,14] 46 76 σ σ'∧Fr [46,50,69,76] hp hp'∧∃ a10' out',σ' 10=.v (.c a10')∧so [76] Rep.str true hp' a10' out'∧(out'=[]→a10'=I .nilS)∧((ReachC x1 x x∧out'=out++[x])∨(¬ ReachC x1 x x∧out'=out))):=by
  have big:∀ b,1000<b→([46,50,69,76]:List Nat).contains b=false:=fun b hb=>by simp;omega
  have sub1:∀ {P:List Nat},P.all (([46,50,69,76]:List Nat).contains ·)=true→∀ b,1000<b→P.contains b=false:=fun hP b hb=>by
    cases hc:List.contains _ b with
    |false=>rfl
    |true =>
      have:=List.all_eq_true.1 hP b (by simpa using hc)
      rw[big b hb] at this
      cases this
  unfold irB15_3
  have hm0:=hm
  refine e_reg ?_
  refine k_mkmapB SK.str IV.bool fun a12 hp1 ct1 m46 r1=>?_
  refine k_mov rfl ?_
  refine k_nil ?_
  have hm:=hm.fr r1 rfl (sub1 rfl)
  refine wpE_seq ?_
  refine e_reg ?_
  refine k_mov f7 ?_
  refine k_mov f11 ?_
  refine k_lkpS rfl hm rfl fun a49 hl=>?_
  obtain ⟨P,hs,hP⟩:=hl.so
  refine k_kill fun hp2 n2 r2=>?_
  have hs:=hs.fr r2 (List.all_eq_true.2 fun b hb=>by rw[sub1 rfl b (hP b hb)];rfl)
  obtain ⟨v,e1,e2⟩:=hs.any.lend [] (by simp)
  rw[toM_get] at e2 hs
  have ht:=toC_len x1 x
  refine k_callOF (E:=Rep.str) (E2:=Rep.str) (f2:=true) (b0:=5) n2 rfl hs.any e1 (of43 e2 (clone_eq (by omega))) (fun _ _ h=>h) (by decide) fun a50 hp3 o50 r3=>?_
  refine k_mov rfl ?_
  refine k_nil ?_
  have R3:Fr [46,50,69] hp hp3:=Fr.ext (Fr.ext (Fr.ext (Fr.refl _ _) r1 rfl) r2 rfl) r3 rfl
  have hm:=(hm.fr r2 rfl (sub1 rfl)).fr r3 rfl (sub1 rfl)
  have m46:=(m46.fr r2 rfl).fr r3 rfl
  refine wpE_block ?_
  refine gE fun σ1 e1=>?_
  have k1:Keep [10,12,13,14] 46 76 σ σ1:=by rw[e1];repeat (first|exact Keep.refl _ _ _ _|refine Keep.upd ?_ rfl _)
  have g12:σ1 12=.v (.c a12):=(congrFun e1 12).trans rfl
  have g13:σ1 13=.v (.c a50):=(congrFun e1 13).trans rfl
  have g10:σ1 10=.v (.c a10):=(congrFun e1 10).trans f10
  have hM:meaC x1 [] (toC x1 x)≤200000000:=by
    unfold meaC
    have h1:=uns_le x1 []
    have h2:unsC x1 []*(x1.length+1)≤10000*10001:=Nat.mul_le_mul (by omega) (by omega)
    omega
  have H10:=h10
  refine wpE_loop (fun n σ' hp' ct'=>bfsI x1 x a12 σ hp n σ' hp' ct'∧σ' 10=.v (.c a10)) _ ⟨⟨[],toC x1 x,a50,rfl,hM,g12,g13,m46,o50.wide rfl,bfs_ini _ _,k1,R3⟩,g10⟩ ?_
  clear e1 k1 g12 g13 g10 m46 o50 hM R3 hm hs
  rintro n σ2 hp4 ct4 ⟨⟨m,q,a13,hn,hn2,f12,f13,hm12,hq,hB,k2,r4⟩,g10⟩
  have F7:σ2 7=.v (.c (.r (.map 21 g))):=(k2 7 rfl).trans f7
  have F11:σ2 11=V (.str x):=(k2 11 rfl).trans f11
  have hm4:=hm0.fr r4 rfl (sub1 rfl)
  refine wpE_seq ?_
  refine e_reg ?_
  refine k_mov f13 ?_
  refine k_len rfl hq.any ?_
  refine k_bin rfl rfl rfl ?_
  refine k_nil ?_
  refine wpE_cond (p:=decide ((q.length:Int) > 0)) rfl (fun g1=>?_) (fun g1=>?_)
  rotate_left
  · refine wpE_exit ?_
    have hq0:q=[]:=by simpa using g1
    subst hq0
    show wpE _ _ _ _ _ _ _ _
    have hend:=bfs_end hB x
    refine e_reg ?_
    refine k_mov f12 ?_
    refine k_mov F11 ?_
    refine k_lkp (K:=SK.str) (iv:=IV.bool) (z:=false) (key:=x) rfl hm12.mp rfl rfl ?_
    refine k_nil ?_
    refine wpE_cond (p:=(mget m x).getD false) rfl (fun g2=>?_) (fun g2=>?_)
    · have hr:ReachC x1 x x:=hend.1 g2
      refine e_last ?_
      refine k_mov g10 ?_
      refine k_mov F11 ?_
      refine k_bslI (len:=1) (z:=IV.str []) (vs:=[IV.str x]) (.cons rfl .nil) (by decide) rfl ?_
      refine k_app (E:=Rep.str) (f:=true) rfl (H10.fr r4 rfl) rfl (sv.any [] _ (sv_lv true [x])) (app_of (by simp;omega) (by simp;omega)) rfl fun a76 hp5 ct5 o76 r5=>?_
      refine k_mov rfl ?_
      refine k_nil ?_
      refine ⟨rfl,by repeat (first|exact k2|refine Keep.upd ?_ rfl _),Fr.ext (Fr.ext (Fr.refl _ _) r4 rfl) r5 rfl,a76,_,rfl,o76.wide rfl,fun e=>by simp at e,.inl ⟨hr,rfl⟩⟩
    · have hr:¬ ReachC x1 x x:=fun r=>by
        have:=hend.2 r
        unfold seenC at this
        rw[g2] at this
        cases this
      refine wpE_skip ?_
      exact ⟨rfl,by repeat (first|exact k2|refine Keep.upd ?_ rfl _),Fr.ext (Fr.refl _ _) r4 rfl,a10,out,g10,H10.fr r4 rfl,hnil,.inr ⟨hr,rfl⟩⟩
  have hpos:0<q.length:=by simpa using g1
  obtain ⟨a,q,rfl⟩:∃ a t,q=a::t:=by cases q with
    |nil=>simp at hpos
    |cons a t=>exact ⟨a,t,rfl⟩
  have hql:q.length≤200000000:=by unfold meaC at hn;simp at hn;omega
  refine wpE_skip ?_
  show wpE _ _ _ _ _ _ _ _
  refine wpE_seq ?_
  refine wpE_block ?_
  refine e_reg ?_
  refine k_mov f13 ?_
  refine k_iadrL rfl hq.any rfl (y:=a) rfl rfl fun p57 c57 q57 h57=>?_
  obtain rfl:c57=[IV.str a]:=h57
  refine k_loadL rfl q57 rfl ?_
  refine k_mov rfl ?_
  refine k_nil ?_
  refine e_reg ?_
  refine k_mov f12 ?_
  refine k_mov rfl ?_
  refine k_lkp (K:=SK.str) (iv:=IV.bool) (z:=false) (key:=a) rfl hm12.mp rfl rfl ?_
  refine k_not rfl ?_
  refine k_nil ?_
  refine wpE_cond (p:=!(mget m a).getD false) rfl (fun g2=>?_) (fun g2=>?_)
  rotate_left
  · -- met before
    have hsa:seenC m a:=by unfold seenC;simpa using g2
    refine wpE_skip ?_
    show wpE _ _ _ _ _ _ _ _
    refine e_last ?_
    refine k_mov f13 ?_
    refine k_slcO (E:=Rep.str) (m:=1) (n:=((a::q).length:Int)) (r:=q) rfl hq (.some rfl) .none (sub_tail a q) rfl fun a55 o55=>?_
    refine k_mov rfl ?_
    refine k_nil ?_
    refine ⟨meaC x1 m q,by unfold meaC at hn ⊢;simp at hn ⊢;omega,⟨m,q,a55,rfl,by unfold meaC at hn ⊢;simp at hn ⊢;omega,f12,rfl,hm12,o55,bfs_old hB hsa,by repeat (first|exact k2|refine Keep.upd ?_ rfl _),r4⟩,g10⟩
  · have hsa:¬ seenC m a:=by unfold seenC;simpa using g2
    have ra:ReachC x1 x a:=hB.qs a (List.mem_cons_self ..)
    have hta:=toC_len x1 a
    refine e_reg ?_
    refine k_mov f12 ?_
    refine k_mov rfl ?_
    refine k_mupdB (K:=SK.str) (iv:=IV.bool) (key:=a) (val:=true) rfl hm12 rfl rfl fun hp5 hm5 r5=>?_
    refine k_nil ?_
    have hm4:=hm4.fr r5 rfl (sub1 rfl)
    have hq:=hq.fr r5 rfl
    refine e_last ?_
    refine k_mov f13 ?_
    refine k_mov F7 ?_
    refine k_mov rfl ?_
    refine k_lkpS rfl hm4 rfl fun a68 hl=>?_
    obtain ⟨P2,hs2,hP2⟩:=hl.so
    rw[toM_get] at hs2
    refine k_app (E:=Rep.str) (f:=true) rfl hq rfl hs2.any (app_of (by simp;omega) (by simp;omega)) rfl fun a69 hp6 ct6 o69 r6=>?_
    refine k_mov rfl ?_
    refine k_nil ?_
    show wpE _ _ _ _ _ _ _ _
    refine e_last ?_
    refine k_mov rfl ?_
    refine k_slcO (E:=Rep.str) (m:=1) (n:=(((a::q)++toC x1 a).length:Int)) (r:=q++toC x1 a) rfl (o69.wide (Q:=[50,69]) rfl) (.some rfl) .none (sub_tail a _) rfl fun a55 o55=>?_
    refine k_mov rfl ?_
    refine k_nil ?_
    have hmn:=mea_new (q:=q) (reach_to ra) hsa
    refine ⟨meaC x1 (mput m a true) (q++toC x1 a),by omega,⟨_,_,a55,rfl,by omega,f12,rfl,hm5.fr r6 rfl,o55,bfs_new hB,by repeat (first|exact k2|refine Keep.upd ?_ rfl _),Fr.ext (Fr.ext r4 r5 rfl) r6 rfl⟩,g10⟩
end
end Go.Proofs.YtameabpbghichaaGreatDoor
