/-
  WordsOf gives the same whichever entries come first.
-/
import Derived.Test.YtameabpbghichaaGreatDoorHM3Db
namespace Go.Proofs.YtameabpbghichaaGreatDoor
open Go Go.Abs
set_option maxRecDepth 100000
set_option maxHeartbeats 8000000
theorem ways_fact {s : List UInt8} {l : List (List UInt8)} : ∀ (n : Nat) (q : Int) (way : List (List UInt8)),waysW s l n q = some way → way.length = n ∧ ∃ k : Nat,q = k ∧ k ≤ s.length
  | 0,q,way,h=>by
    simp only [waysW] at h
    split at h
    · rename_i e
      obtain rfl:=Option.some.inj h
      exact ⟨rfl,0,e,Nat.zero_le _⟩
    · simp at h
  | n + 1,q,way,h=>by
    simp only [waysW] at h
    split at h
    · rename_i hex
      obtain ⟨k,way',w,h1,h2,h3,h4,h5⟩:=hex.choose_spec.1
      have e:=Option.some.inj h
      rw [e] at h5
      obtain ⟨g1,k',g2,g3⟩:=ways_fact n k way' h1
      refine ⟨by rw [h5,List.length_append,g1]; rfl,k + (keyW w).length,by rw [h4]; rfl,?_⟩
      have:=h3.length_le
      rw [List.length_drop] at this
      omega
    · simp at h
/-- What is given back. -/
def resW (r : List (List UInt8) × Bool) : IV:=bif r.2 then lv r.1 else .nilS
def endW (r : List (List UInt8) × Bool) : Ex → Sl → Heap → Nat → Its → Prop
  | .exit _,_,_,_,_=>False
  | _,σ,hp,_,_=>traverse (readRσ 91 σ hp) [.tmp 4,.tmp 5] = some [.c (I (resW r)),.c (I (.bool r.2))]
theorem gD {nt : Nat} {c : IRD} {σ : Sl} {hp : Heap} {ct : Nat} {its : Its} {G : Nat → List IV} {R : Run} {Q : Ex → Sl → Heap → Nat → Its → Prop} (h : ∀ σ',σ' = σ → wpDσ G R nt c σ' hp ct its Q) : wpDσ G R nt c σ hp ct its Q:=h σ rfl
/-- What the ways that were met find. -/
def metW (s : List UInt8) (l : List (List UInt8)) (es : List Ent) (m : List (Int × List (List UInt8))) (seen : List Nat) (q : Int) (c : List (List UInt8)) : Prop :=
  ∃ (k : Nat) (way : List (List UInt8)),metP es m seen ((k : Int),way) ∧ oneW s l k way q c

section
variable {X : Run} [Up (xRun kx) X] {x0 : List UInt8} {x1 : List (List UInt8)} {vx1 : IV}
/-- Before each round. -/
def outI (x0 : List UInt8) (x1 : List (List UInt8)) (vx1 : IV) (n : Nat) (σ : Sl) (hp : Heap) (_ : Nat) (_ : Its) : Prop :=
  ∃ (i : Nat) (a6 : AC) (m : List (Int × List (List UInt8))),i + n = x0.length ∧ σ 0 = V (.str x0) ∧ σ 1 = .v (.c (I vx1)) ∧ σ 23 = V (.int .i64 (x0.length : Int)) ∧ σ 24 = V (.int .i64 (i : Int)) ∧ σ 6 = .v (.c a6) ∧ mpB 19 (SK.int .i64) lv hp a6 m ∧ (∀ q,mget m q = waysW x0 x1 i q) ∧ goW x0 x1 x0.length 0 = goW x0 x1 (x0.length - i) i
/-- Before each entry. -/
def ranI (x0 : List UInt8) (x1 : List (List UInt8)) (vx1 : IV) (i g clk : Nat) (es : List Ent) (m : List (Int × List (List UInt8))) (a7 : AC) (n : Nat) (σ : Sl) (hp : Heap) (_ : Nat) (its : Its) : Prop :=
  ∃ (c : Nat) (seen : List Nat) (m' : List (Int × List (List UInt8))),unseen es seen = n ∧ σ 28 = V (.gp c 0) ∧ itAt its c = some ⟨19,g,clk,seen,clk⟩ ∧ mpb 19 g es clk (SK.int .i64) lv hp m ∧ σ 0 = V (.str x0) ∧ σ 1 = .v (.c (I vx1)) ∧ σ 23 = V (.int .i64 (x0.length : Int)) ∧ σ 24 = V (.int .i64 (i : Int)) ∧ σ 7 = .v (.c a7) ∧
    mpB 26 (SK.int .i64) lv hp a7 m' ∧ Good m' (metW x0 x1 es m seen)
theorem words_run (hg : guardW x0 x1) (hx1 : sv Rep.str false vx1 x1) : wpDσ tabs (L X) 91 ird11.body (ini [.c (I (.str x0)),.c (I vx1)]) [] 1 [] (endW (goW x0 x1 x0.length 0)):=by
  unfold ird11
  refine dw_seq (dw_base (e_last ?_))
  refine k_mov rfl ?_
  refine k_mov rfl ?_
  refine k_nil ?_
  show wpDσ _ _ _ _ _ _ _ _ _
  refine dw_seq (dw_base ?_)
  unfold irB11_1
  refine e_last ?_
  refine k_mkmapB (SK.int .i64) lv fun a19 hp1 ct1 m19 r1=>?_
  refine k_bslI (len:=0) (z:=.str []) (vs:=[]) .nil (by decide) rfl ?_
  refine k_mupdB (K:=SK.int .i64) (iv:=lv) (key:=0) (val:=[]) rfl m19 rfl rfl fun hp2 m2 r2=>?_
  refine k_mov rfl ?_
  refine k_mov rfl ?_
  refine k_nil ?_
  show wpDσ _ _ _ _ _ _ _ _ _
  refine dw_seq (dw_seq (dw_base (e_last ?_)))
  refine k_mov rfl ?_
  refine k_lenS rfl ?_
  refine k_mov rfl ?_
  refine k_nil ?_
  show wpDσ _ _ _ _ _ _ _ _ _
  refine dw_block ?_
  refine gD fun σ1 e1=>?_
  have f0 : σ1 0 = V (.str x0):=(congrFun e1 0).trans rfl
  have f1 : σ1 1 = .v (.c (I vx1)):=(congrFun e1 1).trans rfl
  have f6 : σ1 6 = .v (.c a19):=(congrFun e1 6).trans rfl
  have f23 : σ1 23 = V (.int .i64 (x0.length : Int)):=(congrFun e1 23).trans rfl
  have f24 : σ1 24 = V (.int .i64 (0 : Int)):=(congrFun e1 24).trans rfl
  refine dw_loop (outI x0 x1 vx1) x0.length ⟨0,a19,_,by omega,f0,f1,f23,f24,f6,m2,fun q=>?_,by simp⟩ ?_
  · simp only [mput,mget,waysW]
    by_cases h : q = 0
    · subst h; rfl
    · have h' : ¬ 0 = q:=fun e=>h e.symm
      rw [if_neg h,if_neg h']
  clear e1 f0 f1 f6 f23 f24 m2 r2 m19 r1
  rintro n σ2 hp3 ct3 its ⟨i,a6,m,hi,f0,f1,f23,f24,f6,hm,hways,hgo⟩
  refine dw_seq (dw_base (e_last ?_))
  refine k_bin f24 f23 rfl ?_
  refine k_nil ?_
  show wpDσ _ _ _ _ _ _ _ _ _
  refine dw_seq (dw_base ?_)
  refine wpE_cond (p:=decide ((i : Int) < (x0.length : Int))) rfl (fun gi=>?_) (fun gi=>?_)
  rotate_left
  · refine wpE_exit ?_
    have hil : i = x0.length:=by simp at gi; omega
    have hgo0 : goW x0 x1 x0.length 0 = ([],false):=by rw [hgo,hil]; simp [goW]
    show wpDσ _ _ _ _ _ _ _ _ _
    refine dw_base ?_
    refine e_reg ?_
    refine k_mov rfl ?_
    refine k_mov rfl ?_
    refine k_nil ?_
    refine wpE_ret ?_
    rw [hgo0]
    rfl
  have hin : i < x0.length:=by simpa using gi
  refine wpE_skip ?_
  show wpDσ _ _ _ _ _ _ _ _ _
  refine dw_seq (dw_block ?_)
  refine dw_seq (dw_base (e_last ?_))
  refine k_mkmapB (SK.int .i64) lv fun a7 hp4 ct4 m26 r4=>?_
  refine k_mov rfl ?_
  refine k_nil ?_
  show wpDσ _ _ _ _ _ _ _ _ _
  refine dw_seq (dw_seq (dw_reg ?_))
  obtain ⟨g,es,clk,rfl,hB⟩:=hm.fr r4 rfl
  refine dw_ins (wpL_sound (k_mov f6 (k_nil ?_)))
  refine dw_rng rfl (mapAt_of hB.get) fun c hc=>?_
  refine dw_nil ?_
  show wpDσ _ _ _ _ _ _ _ _ _
  refine dw_block ?_
  refine gD fun σ5 e5=>?_
  have h0 : σ5 0 = V (.str x0):=(congrFun e5 0).trans f0
  have h1 : σ5 1 = .v (.c (I vx1)):=(congrFun e5 1).trans f1
  have h23 : σ5 23 = V (.int .i64 (x0.length : Int)):=(congrFun e5 23).trans f23
  have h24 : σ5 24 = V (.int .i64 (i : Int)):=(congrFun e5 24).trans f24
  have h7 : σ5 7 = .v (.c a7):=(congrFun e5 7).trans rfl
  have h28 : σ5 28 = V (.gp c 0):=(congrFun e5 28).trans rfl
  refine dw_loop (ranI x0 x1 vx1 i g clk es m a7) (unseen es []) ⟨c,[],[],rfl,h28,by simp [itAt],hB,h0,h1,h23,h24,h7,m26,fun q=>⟨fun c e=>by simp [mget] at e,fun _ c ⟨k,way,h,_⟩=>met_nil h⟩⟩ ?_
  clear e5 h0 h1 h23 h24 h7 h28 hc f0 f1 f23 f24 f6 hm r4 m26 hB
  rintro u σ6 hp6 ct6 its6 ⟨c,seen,m',hu,f28,hit,hB,f0,f1,f23,f24,f7,hm',hS⟩
  refine dw_seq (dw_reg ?_)
  refine dw_nx f28 hit (mapAt_of hB.get) hB.born (Nat.le_refl _) (fun hall=>?_) (fun e he hne=>?_)
  · refine dw_ins (wpL_sound (k_ext rfl rfl (k_nil ?_)))
    refine dw_nil ?_
    show wpDσ _ _ _ _ _ _ _ _ _
    refine dw_seq (dw_base ?_)
    refine wpE_cond (p:=false) rfl (fun g=>by cases g) (fun _=>?_)
    refine wpE_exit ?_
    show wpDσ _ _ _ _ _ _ _ _ _
    have hSucc : ∀ q,mget m' q = waysW x0 x1 (i + 1) q:=fun q=>by
      have hc : ∀ c,metW x0 x1 es m seen q c ↔ moreW x0 x1 (waysW x0 x1 i) q c:=fun c=>by
        unfold metW moreW oneW
        constructor
        · rintro ⟨k,way,h1,w,h2,h3,h4,h5⟩
          rw [met_all hB.ents.len hall,← mget_mem hB.keys,hways] at h1
          exact ⟨k,way,w,h1,h2,h3,h4,h5⟩
        · rintro ⟨k,way,w,h1,h2,h3,h4,h5⟩
          refine ⟨k,way,?_,w,h2,h3,h4,h5⟩
          rw [met_all hB.ents.len hall,← mget_mem hB.keys,hways]
          exact h1
      have hc' : metW x0 x1 es m seen q = moreW x0 x1 (waysW x0 x1 i) q:=by funext c; exact propext (hc c)
      have:=hS q
      rw [hc'] at this
      exact (ways_succ this.1 this.2).symm
    refine dw_seq (dw_base ?_)
    unfold irB11_3
    refine e_reg ?_
    refine k_mov f7 ?_
    refine k_mov f0 ?_
    refine k_lenS rfl ?_
    refine k_lkpZ (K:=SK.int .i64) (iv:=lv) (key:=(x0.length : Int)) rfl hm'.mp rfl ?_
    have hgs : x0.length - i = (x0.length - (i + 1)) + 1:=by omega
    rw [hgs] at hgo
    simp only [goW] at hgo
    rw [← hSucc] at hgo
    cases hq : mget m' (x0.length : Int) with
    | some way =>
      rw [hq] at hgo
      simp only at hgo
      refine k_movT rfl ?_
      refine k_ext rfl rfl ?_
      refine k_ext rfl rfl ?_
      refine k_mov rfl ?_
      refine k_mov rfl ?_
      refine k_nil ?_
      refine e_reg ?_
      refine k_mov rfl ?_
      refine k_nil ?_
      refine wpE_cond (p:=true) rfl (fun _=>?_) (fun g=>by cases g)
      refine e_reg ?_
      refine k_mov rfl ?_
      refine k_mov rfl ?_
      refine k_mov rfl ?_
      refine k_nil ?_
      refine wpE_ret ?_
      rw [hgo]
      rfl
    | none =>
      rw [hq] at hgo
      simp only at hgo
      refine k_movT rfl ?_
      refine k_ext rfl rfl ?_
      refine k_ext rfl rfl ?_
      refine k_mov rfl ?_
      refine k_mov rfl ?_
      refine k_nil ?_
      refine e_reg ?_
      refine k_mov rfl ?_
      refine k_nil ?_
      refine wpE_cond (p:=false) rfl (fun g=>by cases g) (fun _=>?_)
      refine wpE_skip ?_
      show wpDσ _ _ _ _ _ _ _ _ _
      obtain ⟨g',es',clk',rfl,hB'⟩:=hm'
      refine dw_reg ?_
      refine dw_ins (wpL_sound (k_mov f7 (k_nil ?_)))
      refine dw_ins (wpL_sound (k_mov rfl (k_nil ?_)))
      refine dw_mv (b:=26) (c:=19) (t:=6) rfl (by decide) hB'.get (by decide) (by decide) ?_
      refine dw_nil ?_
      show wpDσ _ _ _ _ _ _ _ _ _
      refine dw_base (e_last ?_)
      refine k_bin (v:=.int .i64 ((i + 1 : Nat) : Int)) f24 rfl (by show some (IV.int .i64 (IntKind.wrap .i64 _)) = _; rw [w64 (by omega) (by have:=hg.1; omega)]; rfl) ?_
      refine k_mov rfl ?_
      refine k_nil ?_
      exact ⟨n - 1,by omega,i + 1,_,m',by omega,f0,f1,f23,rfl,rfl,⟨ct6,es',clk',rfl,by rw [Heap.get_set,if_pos rfl],hB'.ents,hB'.born,hB'.nodup,hB'.keys⟩,hSucc,hgo⟩
  · refine dw_ins (wpL_sound (k_ext rfl rfl (k_nil ?_)))
    refine dw_nil ?_
    show wpDσ _ _ _ _ _ _ _ _ _
    refine dw_seq (dw_base ?_)
    refine wpE_cond (p:=true) rfl (fun _=>?_) (fun g=>by cases g)
    refine wpE_skip ?_
    show wpDσ _ _ _ _ _ _ _ _ _
    refine dw_block ?_
    refine dw_seq (dw_reg ?_)
    obtain ⟨j,hj,rfl⟩:=List.getElem_of_mem he
    have hl:=hB.ents.len
    have hjm : j < m.length:=by omega
    obtain ⟨v,hv1,hv2,hv3⟩:=All2.get hB.ents j es[j] (by simp [hj])
    obtain ⟨kk,way⟩:=v
    have hmem : (kk,way) ∈ m:=List.mem_of_getElem? hv1
    rw [← mget_mem hB.keys,hways] at hmem
    obtain ⟨w1,k,rfl,w2⟩:=ways_fact i kk way hmem
    have hit2 : itAt (itSet its6 c ⟨19,g,clk,seen ++ [es[j].born],clk⟩) c = some ⟨19,g,clk,seen ++ [es[j].born],clk⟩:=by rw [itSet_at hit,if_pos rfl]
    refine dw_ent (c:=c) (e:=es[j]) (sn:=seen) f28 hit2 (mapAt_of hB.get) rfl he rfl hB.nodup ?_
    rw [hv2,hv3]
    refine dw_ins (wpL_sound (k_ext rfl rfl (k_nil ?_)))
    refine dw_ins (wpL_sound (k_ext rfl rfl (k_nil ?_)))
    refine dw_ins (wpL_sound (k_mov rfl (k_nil ?_)))
    refine dw_ins (wpL_sound (k_mov rfl (k_nil ?_)))
    refine dw_nil ?_
    show wpDσ _ _ _ _ _ _ _ _ _
    refine dw_base ?_
    refine wpE_mono (inner hg hx1 (k:=k) (way:=way) (a7:=a7) (m:=m') w2 (by have:=hg.1; omega) f0 f1 f7 rfl rfl hm' hS) ?_
    rintro ex σ9 hp9 _ ⟨rfl,m9,q1,q2,q3,q4⟩
    refine ⟨unseen es (seen ++ [es[j].born]),by rw [← hu]; exact unseen_lt he hne,c,seen ++ [es[j].born],m9,rfl,(q3 28 rfl).trans f28,hit2,hB.fr q4 rfl,(q3 0 rfl).trans f0,(q3 1 rfl).trans f1,(q3 23 rfl).trans f23,(q3 24 rfl).trans f24,(q3 7 rfl).trans f7,q1,q2.congr fun q d=>?_⟩
    unfold metW
    constructor
    · rintro (⟨k2,way2,h1,h2⟩ | h)
      · exact ⟨k2,way2,(met_add hB.nodup (by simp [hj]) hv1 _).2 (.inl h1),h2⟩
      · exact ⟨k,way,(met_add hB.nodup (by simp [hj]) hv1 _).2 (.inr rfl),h⟩
    · rintro ⟨k2,way2,h1,h2⟩
      rcases (met_add hB.nodup (by simp [hj]) hv1 _).1 h1 with h | h
      · exact .inl ⟨k2,way2,h,h2⟩
      · refine .inr ?_
        simp only [Prod.mk.injEq,Int.natCast_inj] at h
        obtain ⟨rfl,rfl⟩:=h
        exact h2
end

/-- The functions that range over maps. -/
def DF : Nat → Option FnD
  | 11=>some ird11
  | _=>none
/-- The runs of functions without a body,and of those that range over maps. -/
noncomputable abbrev X1 : Run:=orR (xRun kx) (demR tabs (L (xRun kx)) DF)
instance up1 : Up (xRun kx) X1:=⟨orR_left _ _⟩
instance d11 : D11 X1 where
  s:=fun {x0 x1 vx1 r} hx1 h=>by
    unfold uF11 at h
    split at h
    · rename_i hg
      obtain rfl:=Option.some.inj h
      have e:=fnD_wp (D:=DF) (f:=11) (fd:=ird11) (G:=tabs) (R:=L (xRun kx)) rfl (args:=[.c (I (.str x0)),.c (I vx1)]) (rs:=[.c (I (resW (goW x0 x1 x0.length 0))),.c (I (.bool (goW x0 x1 x0.length 0).2))]) (Nat.le_of_ble_eq_true rfl) (dw_mono (fun ex σ hp ct its q=>by cases ex <;> exact q) (words_run (X:=xRun kx) hg hx1))
      have hX : X1 11 [.c (I (.str x0)),.c (I vx1)] [] = _:=orR_right (fun args bs=>rfl) e
      have hL : L X1 11 [.c (I (.str x0)),.c (I vx1)] [] = _:=lim_x rfl _ _ hX
      have hsv : sv Rep.str true (resW (goW x0 x1 x0.length 0)) (goW x0 x1 x0.length 0).1:=by
        have hnil : ∀ k n,(goW x0 x1 k n).2 = false → (goW x0 x1 k n).1 = []:=by
          intro k
          induction k with
          | zero=>intro n _; rfl
          | succ k ih =>
            intro n
            simp only [goW]
            split
            · intro h; cases h
            · exact ih (n + 1)
        unfold resW
        cases hb : (goW x0 x1 x0.length 0).2 with
        | true=>exact sv_lv true _
        | false=>rw [hnil _ _ hb]; exact sv_nil Rep.str true
      exact pc_dem hL (fun lent=>by simp only [traverse_cons,traverse_nil,back_sc (sv_fresh hsv),back1_bool]) ⟨_,rfl,hsv⟩
    · simp at h
end Go.Proofs.YtameabpbghichaaGreatDoor
