/-
  Circles gives the same whichever entries come first.
-/
import Derived.Test.YtameabpbghichaaGreatDoorHM4Db
namespace Go.Proofs.YtameabpbghichaaGreatDoor
open Go Go.Abs Go.Abs.Sh
set_option maxRecDepth 100000
set_option maxHeartbeats 8000000
theorem srtS_perm{l m:List (List UInt8)}(h:l.Perm m):srtS l=srtS m:=by
  have hp:(srtS l).Perm (srtS m):=(List.mergeSort_perm _ _).trans (h.trans (List.mergeSort_perm _ _).symm)
  have hs:∀ l:List (List UInt8),(srtS l).Pairwise fun x y=>decide (x≤y)=true:=fun l =>
    List.pairwise_mergeSort (le:=fun x y:List UInt8=>decide (x≤y)) (fun a b c h1 h2=>by simp only[decide_eq_true_eq] at h1 h2 ⊢;exact List.le_trans h1 h2) (fun a b=>by simpa using List.le_total a b) l
  exact hp.eq_of_pairwise (fun a b _ _ h1 h2=>by simp only[decide_eq_true_eq] at h1 h2;exact List.le_antisymm h1 h2) (hs l) (hs m)
theorem keysC_mem(l:List uT0)(x:List UInt8):x∈keysC l↔x∈l.map (·.Line):=by
  have key:∀ (l:List uT0) (ks:List (List UInt8)),x∈l.foldl (fun ks f=>if f.Line∈ks then ks else ks++[f.Line]) ks↔x∈ks∨x∈l.map (·.Line):=by
    intro l
    induction l with
    |nil=>intro ks;simp
    |cons f l ih =>
      intro ks
      rw[List.foldl_cons,ih]
      by_cases h:f.Line∈ks
      · simp only[h,if_true,List.map_cons,List.mem_cons]
        constructor
        · rintro (a|a)
          · exact .inl a
          · exact .inr (.inr a)
        · rintro (a|rfl|a)
          · exact .inl a
          · exact .inl h
          · exact .inr a
      · simp only[h,if_false,List.map_cons,List.mem_cons,List.mem_append,List.not_mem_nil,or_false]
        constructor
        · rintro ((a|a)|a)
          · exact .inl a
          · exact .inr (.inl a)
          · exact .inr (.inr a)
        · rintro (a|a|a)
          · exact .inl (.inl a)
          · exact .inl (.inr a)
          · exact .inr a
  rw[keysC,key]
  simp
theorem keysC_len(l:List uT0):(keysC l).length≤l.length:=by
  have key:∀ (l:List uT0) (ks:List (List UInt8)),(l.foldl (fun ks f=>if f.Line∈ks then ks else ks++[f.Line]) ks).length≤ks.length+l.length:=by
    intro l
    induction l with
    |nil=>intro ks;simp
    |cons f l ih =>
      intro ks
      rw[List.foldl_cons]
      refine Nat.le_trans (ih _) ?_
      split
      · simp only[List.length_cons];omega
      · simp only[List.length_cons,List.length_append,List.length_nil];omega
  have:=key l []
  simpa[keysC] using this
/-- What is given back. -/
def resC(l:List (List UInt8)):IV:=if l=[] then .nilS else lv l
theorem resC_sv(l:List (List UInt8)):sv Rep.str true (resC l) l:=by
  unfold resC
  split
  · rename_i h;subst h;exact sv_nil _ _
  · exact sv_lv _ _
def endS15(r:List (List UInt8)×Int):Ex→Sl→Heap→Nat→Its→Prop
  |.exit _,_,_,_,_=>False
  |_,σ,hp,_,_=>∃ rs,traverse (readRσ 80 σ hp) [.tmp 4,.tmp 5]=some rs∧rs=[.c (I (resC r.1)),.c (I (.int .i64 r.2))]
theorem gSL{nt:Nat}{l:List SIns}{σ:Sl}{hp:Heap}{ct:Nat}{its:Its}{G:Nat→List IV}{R:Run}{C:CT}{Q:Sl→Heap→Nat→Its→Prop}(h:∀ σ',σ'=σ→wpSLσ G R C nt l σ' hp ct its Q):wpSLσ G R C nt l σ hp ct its Q:=h σ rfl
theorem k_mkmapS{nt d:Nat}{σ:Sl}{hp:Heap}{ct:Nat}{G:Nat→List IV}{R:Run}{Q:Sl→Heap→Nat→Prop}{l:List Ins}(nx:wpL G R nt l Q (upd σ d (.v (.c (.r (.map d ct))))) (hp.set d (.map ct [] 0)) (ct+1)):wpL G R nt (.op (some d) none .mkmap::l) Q σ hp ct :=
  k_op (by simp only[opK,Abs.step,mkS_hp,mkS_ct,Option.getD_some]) nx
section
variable {X:Run} [Up (xRun kx) X] {x0:uT2} {cx0:List IV} {x1:List uT0} {vx1:IV} {C:CT}
/-- Before each forward. -/
def fillI(x1:List uT0)(vx1:IV)(n:Nat)(σ:Sl)(hp:Heap)(_:Nat)(_:Its):Prop :=
  ∃ (i g clk:Nat) (es:List Ent),i+n=x1.length∧σ 22=.v (.c (I vx1))∧σ 23=V (.int .i64 (x1.length:Int))∧σ 24=V (.int .i64 (i:Int))∧σ 7=.v (.c (.r (.map 21 g)))∧hp.get 38=none∧mapS (fun b=>1000<b) hp 21 g es clk (toM (x1.take i))
/-- Before each entry. -/
def ranC(x1:List uT0)(g clk:Nat)(es:List Ent)(n:Nat)(σ:Sl)(hp:Heap)(_:Nat)(its:Its):Prop :=
  ∃ (c:Nat) (seen:List Nat) (a10:AC) (out:List (List UInt8)),unseen es seen=n∧σ 41=V (.gp c 0)∧itAt its c=some ⟨21,g,clk,seen,clk⟩∧mapS (fun b=>1000<b) hp 21 g es clk (toM x1)∧σ 7=.v (.c (.r (.map 21 g)))∧σ 10=.v (.c a10)∧so [76] Rep.str true hp a10 out∧(out=[]→a10=I .nilS)∧out.Nodup∧out.length+n≤es.length∧∀ y,y∈out↔ReachC x1 y y∧∃ v,metP es (toM x1) seen (y,v)
theorem circ_run(hC:CGood C){e:Int}(hx0:uR2.rp false cx0 x0)(hx1:sv uR0 false vx1 x1)(h51:uF51 x0 x1=some e)(hlen:e=0→x1.length≤10000) :
    wpSσ tabs (L X) C 80 ird15.body (ini [.agg (cx0.map I),.c (I vx1)]) [] 1 [] (endS15 (if e=0 then (circC x1,0) else ([],e))):=by
  unfold ird15
  obtain ⟨v1,v3,rfl,q2,q4⟩:=uR2.inv hx0
  refine sw_seq hC (sw_base (e_last ?_))
  refine k_box rfl rfl fun g5 hp6 k7 r8=>?_
  refine k_mov rfl ?_
  refine k_mov rfl ?_
  refine k_nil ?_
  show wpSσ _ _ _ _ _ _ _ _ _ _
  refine sw_seq hC (sw_base ?_)
  unfold irB15_1
  refine e_reg ?_
  refine k_loadB rfl k7 rfl ?_
  refine k_mov rfl ?_
  refine k_call (.cons rfl rfl (.cons rfl rfl .nil)) (s51 (cx0:=[(IV.retag 1 v1),(IV.retag 1 v3)]) (uR2.mk (sv_retag q2) (sv_retag q4)) (sv_retag hx1) h51) (.inl rfl) ?_
  rintro _ rfl
  refine k_mov rfl ?_
  refine k_nil ?_
  refine e_reg ?_
  refine k_mov rfl ?_
  refine k_bin rfl rfl rfl ?_
  refine k_nil ?_
  refine wpE_cond (p:=(e != 0)) rfl (fun g=>?_) (fun g=>?_)
  · have he:e≠0:=by simpa using g
    refine e_reg ?_
    refine k_mov rfl ?_
    refine k_mov rfl ?_
    refine k_mov rfl ?_
    refine k_nil ?_
    refine wpE_ret ?_
    show endS15 _ Ex.ret _ hp6 2 []
    rw[if_neg he]
    exact ⟨_,rfl,rfl⟩
  have he:e=0:=by simpa using g
  rw[if_pos he]
  have hlen:=hlen he
  refine wpE_skip ?_
  show wpSσ _ _ _ _ _ _ _ _ _ _
  refine sw_seq hC (sw_base (e_last ?_))
  refine k_mkmapS ?_
  refine k_mov rfl ?_
  refine k_nil ?_
  show wpSσ _ _ _ _ _ _ _ _ _ _
  refine sw_seq hC (sw_seq hC (sw_base (e_last ?_)))
  refine k_mov rfl ?_
  refine k_len rfl (sv.any [] _ hx1) ?_
  refine k_mov rfl ?_
  refine k_nil ?_
  show wpSσ _ _ _ _ _ _ _ _ _ _
  refine sw_block hC ?_
  refine gS fun σ1 e1=>?_
  have h38:∀ x,(hp6.set 21 x).get 38=none:=fun x=>by rw[Heap.get_set,if_neg (by decide),r8 38 (by decide)];rfl
  refine sw_loop hC (fillI x1 vx1) x1.length ⟨0,_,0,[],by omega,(congrFun e1 22).trans rfl,(congrFun e1 23).trans rfl,(congrFun e1 24).trans rfl,(congrFun e1 7).trans rfl,h38 _,⟨by rw[Heap.get_set,if_pos rfl],.nil,by simp,by simp,by simp[toM],by simp⟩⟩ ?_
  clear e1 h38 k7 r8
  rintro n σ2 hp2 ct2 its ⟨i,g,clk,es,hi,f22,f23,f24,f7,h38,hm⟩
  refine sw_seq hC (sw_base (e_last ?_))
  refine k_bin f24 f23 rfl ?_
  refine k_nil ?_
  show wpSσ _ _ _ _ _ _ _ _ _ _
  refine sw_seq hC (sw_base ?_)
  refine wpE_cond (p:=decide ((i:Int)<(x1.length:Int))) rfl (fun gi=>?_) (fun gi=>?_)
  · -- a round
    have hin:i<x1.length:=by simpa using gi
    refine wpE_skip ?_
    show wpSσ _ _ _ _ _ _ _ _ _ _
    refine sw_seq hC (sw_base ?_)
    refine wpE_mono (c_round hx1 hlen hin (g:=g) (clk:=clk) (es:=es) f7 f22 f24 h38 hm) ?_
    rintro ex σ3 hp3 ct3 ⟨rfl,k3,hd⟩
    show wpSσ _ _ _ _ _ _ _ _ _ _
    have g22:σ3 22=.v (.c (I vx1)):=(k3 22 rfl).trans f22
    have g23:σ3 23=V (.int .i64 (x1.length:Int)):=(k3 23 rfl).trans f23
    have g24:σ3 24=V (.int .i64 (i:Int)):=(k3 24 rfl).trans f24
    have g7:σ3 7=.v (.c (.r (.map 21 g))):=(k3 7 rfl).trans f7
    refine sw_reg ?_
    have fin:∀ (σ:Sl) (hp:Heap) (ct:Nat),σ 22=.v (.c (I vx1))→σ 23=V (.int .i64 (x1.length:Int))→σ 24=V (.int .i64 (i:Int))→σ 7=.v (.c (.r (.map 21 g)))→hp.get 38=none→(∃ es clk,mapS (fun b=>1000<b) hp 21 g es clk (toM (x1.take (i+1)))) →
        wpSLσ tabs (L X) C 80 [.ins (.op (some 39) none (.bin .add (.t 24) (.c (.int .i64 1)))),.ins (.op (some 24) none (.mov (.t 39)))] σ hp ct its (fun σ hp ct its=>∃ m',m'<n∧fillI x1 vx1 m' σ hp ct its):=by
      rintro σ hp ct a1 a2 a3 a4 a5 ⟨es',clk',a6⟩
      refine sw_ins (k_bin (v:=.int .i64 ((i+1:Nat):Int)) a3 rfl (by show some (IV.int .i64 (IntKind.wrap .i64 _))=_;rw[w64 (by omega) (by omega)];rfl) (k_nil ?_))
      refine sw_ins (k_mov rfl (k_nil ?_))
      refine sw_nil ?_
      exact ⟨n-1,by omega,i+1,g,clk',es',by omega,a1,a2,rfl,a4,a5,a6⟩
    rcases hd with ⟨x,es',clk',h1,h2⟩|⟨h1,h2⟩
    · have hne:38≠newB hp3:=fun e=>by have:=newB_big hp3;omega
      refine sw_rn (c:=newB hp3) h1 rfl hne (by decide) ?_
      refine fin _ _ _ ?_ ?_ ?_ ?_ ?_ ⟨_,_,h2.ren (ct:=ct3) h1 (by decide) (by decide) (by decide)⟩
      · show renV _ _ _ _ (σ3 22)=_
        rw[g22];rfl
      · show renV _ _ _ _ (σ3 23)=_
        rw[g23];rfl
      · show renV _ _ _ _ (σ3 24)=_
        rw[g24];rfl
      · show renV _ _ _ _ (σ3 7)=_
        rw[g7]
        simp[renV,ren1,renC,renR]
      · rw[Heap.get_set,if_neg hne,Heap.get_del,if_pos rfl]
    · exact sw_rn0 h1 (fin _ _ _ g22 g23 g24 g7 h1 h2)
  · refine wpE_exit ?_
    have hil:i=x1.length:=by simp at gi;omega
    subst hil
    rw[List.take_length] at hm
    show wpSσ _ _ _ _ _ _ _ _ _ _
    refine sw_seq hC (sw_base (e_last ?_))
    refine k_mov rfl ?_
    refine k_nil ?_
    show wpSσ _ _ _ _ _ _ _ _ _ _
    refine sw_seq hC (sw_seq hC (sw_reg ?_))
    refine sw_ins (k_mov f7 (k_nil ?_))
    refine sw_rng rfl (mapAt_of hm.get) fun c hc=>?_
    refine sw_nil ?_
    show wpSσ _ _ _ _ _ _ _ _ _ _
    refine sw_block hC ?_
    refine gS fun σ5 e5=>?_
    have hl0:es.length=(keysC x1).length:=by rw[← toM_keys,List.length_map,hm.ents.length]
    refine sw_loop hC (ranC x1 g clk es) (unseen es []) ⟨c,[],I .nilS,[],rfl,(congrFun e5 41).trans rfl,by simp[itAt],hm,(congrFun e5 7).trans f7,(congrFun e5 10).trans rfl,so_nil _ _ _ _,fun _=>rfl,List.nodup_nil,?_,fun y=>?_⟩ ?_
    · have:=List.length_filter_le (fun e:Ent=>!([]:List Nat).contains e.born) es
      simp only[List.length_nil,unseen]
      omega
    · constructor
      · intro h;simp at h
      · rintro ⟨_,v,h⟩;exact absurd h met_nil
    clear e5 hc f22 f23 f24 f7 h38 hm
    rintro u σ6 hp6 ct6 its6 ⟨c,seen,a10,out,hu,f41,hit,hm,f7,f10,h10,hnil,hnd,hol,hout⟩
    refine sw_seq hC (sw_reg ?_)
    refine sw_nx f41 hit (mapAt_of hm.get) hm.born (Nat.le_refl _) (fun hall=>?_) (fun e he hne=>?_)
    · -- the end
      refine sw_ins (k_ext rfl rfl (k_nil ?_))
      refine sw_nil ?_
      show wpSσ _ _ _ _ _ _ _ _ _ _
      refine sw_seq hC (sw_base ?_)
      refine wpE_cond (p:=false) rfl (fun g=>by cases g) (fun _=>?_)
      refine wpE_exit ?_
      show wpSσ _ _ _ _ _ _ _ _ _ _
      have hel:es.length=(toM x1).length:=hm.ents.length.symm
      have hsame:circC x1=srtS out:=by
        unfold circC
        refine srtS_perm ((List.perm_ext_iff_of_nodup (List.Pairwise.filter _ (by have h:=hm.keys;rw[toM_keys] at h;exact h)) hnd).2 fun y=>?_)
        rw[List.mem_filter,@decide_eq_true_eq _ (Classical.propDecidable _),hout]
        have hk:y∈keysC x1↔∃ v,metP es (toM x1) seen (y,v):=by
          rw[← toM_keys,List.mem_map]
          constructor
          · rintro ⟨⟨a,v⟩,h,rfl⟩;exact ⟨v,(met_all hel hall _).2 h⟩
          · rintro ⟨v,h⟩;exact ⟨(y,v),(met_all hel hall _).1 h,rfl⟩
        rw[hk]
        exact And.comm
      have hkl:=keysC_len x1
      have hsl:(srtS out).length=out.length:=by simp[srtS]
      rw[hsame]
      refine sw_base ?_
      unfold irB15_4
      refine e_reg ?_
      refine k_mov f10 ?_
      refine k_callS (E:=Rep.str) (f1:=true) (f2:=true) (ts:=[]) (fun _ h=>rows_strong (fun _ _ h=>h) h) rfl h10 (fun _=>.nil) rfl (fun _ _ h0=>g52 h0 (r:=srtS out) (by unfold uF52;rw[if_pos (by omega)])) (fun _ rs h ⟨q1,q2⟩=>⟨q1,q2⟩) fun hp7 o7 r7=>?_
      refine k_nil ?_
      refine e_reg ?_
      refine k_mov f10 ?_
      refine k_mov rfl ?_
      refine k_mov rfl ?_
      by_cases h0:out=[]
      · have ha:=hnil h0
        subst h0
        subst ha
        refine k_frzI (v:=.nilS) ((get_mk _).trans rfl) ?_
        refine k_nil ?_
        refine wpE_ret ?_
        refine ⟨_,rfl,?_⟩
        simp only[resC,show srtS []=[] from List.length_eq_zero_iff.1 hsl,if_true]
      · refine k_frz (f:=true) ((get_mk _).trans rfl) o7 rfl fun v hp8 s8 r9=>?_
        have hne:srtS out≠[]:=fun q=>by rw[q] at hsl;exact h0 (List.length_eq_zero_iff.1 hsl.symm)
        obtain rfl:v=lv (srtS out):=lv_of s8 hne
        refine k_nil ?_
        refine wpE_ret ?_
        refine ⟨_,rfl,?_⟩
        simp only[resC,hne,if_false]
    · refine sw_ins (k_ext rfl rfl (k_nil ?_))
      refine sw_nil ?_
      show wpSσ _ _ _ _ _ _ _ _ _ _
      refine sw_seq hC (sw_base ?_)
      refine wpE_cond (p:=true) rfl (fun _=>?_) (fun g=>by cases g)
      refine wpE_skip ?_
      show wpSσ _ _ _ _ _ _ _ _ _ _
      refine sw_block hC ?_
      refine sw_seq hC (sw_reg ?_)
      obtain ⟨j,hj,rfl⟩:=List.getElem_of_mem he
      obtain ⟨v,hv1,hv2,_⟩:=All2.get hm.ents j es[j] (by simp[hj])
      obtain ⟨x,tos⟩:=v
      have hit2:itAt (itSet its6 c ⟨21,g,clk,seen++[es[j].born],clk⟩) c=some ⟨21,g,clk,seen++[es[j].born],clk⟩:=by rw[itSet_at hit,if_pos rfl]
      refine sw_ent (c:=c) (e:=es[j]) (sn:=seen) f41 hit2 (mapAt_of hm.get) rfl he rfl hm.nodup ?_
      rw[hv2]
      refine sw_ins (k_ext rfl rfl (k_nil ?_))
      refine sw_ins (k_mov rfl (k_nil ?_))
      refine sw_nil ?_
      show wpSσ _ _ _ _ _ _ _ _ _ _
      refine sw_base ?_
      have hkl:=keysC_len x1
      refine wpE_mono (c_bfs hlen (g:=g) (clk:=clk) (es:=es) (a10:=a10) (out:=out) (x:=x) f7 f10 rfl hm h10 (by omega) hnil) ?_
      rintro ex σ9 hp9 ct9 ⟨rfl,k9,r9,a10',out',o1,o2,o3,o4⟩
      have hlt:unseen es (seen++[es[j].born])<unseen es seen:=unseen_lt he hne
      have hx:∀ v',¬ metP es (toM x1) seen (x,v'):=by
        rintro v' ⟨j2,e2,h1,h2,h3⟩
        have hkeys:=hm.keys
        obtain ⟨q1,q1'⟩:=List.getElem?_eq_some_iff.1 h2
        obtain ⟨q3,q3'⟩:=List.getElem?_eq_some_iff.1 hv1
        have hjj:j2=j:=by
          rcases Nat.lt_trichotomy j2 j with q|q|q
          · have w:=List.pairwise_iff_getElem.1 hkeys j2 j (by simpa using q1) (by simpa using q3) q
            simp only[List.getElem_map,q1',q3'] at w
            exact absurd rfl w
          · exact q
          · have w:=List.pairwise_iff_getElem.1 hkeys j j2 (by simpa using q3) (by simpa using q1) q
            simp only[List.getElem_map,q1',q3'] at w
            exact absurd rfl w
        subst hjj
        obtain ⟨_,q2⟩:=List.getElem?_eq_some_iff.1 h1
        rw[q2] at hne
        exact hne h3
      have hmet:∀ y,(∃ v,metP es (toM x1) (seen++[es[j].born]) (y,v))↔(∃ v,metP es (toM x1) seen (y,v))∨y=x:=fun y=>by
        constructor
        · rintro ⟨v,h⟩
          rcases (met_add hm.nodup (by simp[hj]) hv1 _).1 h with h|h
          · exact .inl ⟨v,h⟩
          · injection h with h _;exact .inr h
        · rintro (⟨v,h⟩|rfl)
          · exact ⟨v,(met_add hm.nodup (by simp[hj]) hv1 _).2 (.inl h)⟩
          · exact ⟨tos,(met_add hm.nodup (by simp[hj]) hv1 _).2 (.inr rfl)⟩
      have hxo:x∉out:=fun h=>by
        obtain ⟨_,v,h⟩:=(hout x).1 h
        exact hx v h
      refine ⟨unseen es (seen++[es[j].born]),by omega,c,seen++[es[j].born],a10',out',rfl,(k9 41 rfl).trans f41,hit2,hm.fr r9 rfl (fun b hb=>by simp;omega),(k9 7 rfl).trans f7,o1,o2,o3,?_,?_,fun y=>?_⟩
      · rcases o4 with ⟨_,rfl⟩|⟨_,rfl⟩
        · rw[List.nodup_append]
          refine ⟨hnd,by simp,fun a ha b hb=>?_⟩
          obtain rfl:b=x:=by simpa using hb
          rintro rfl
          exact hxo ha
        · exact hnd
      · rcases o4 with ⟨_,rfl⟩|⟨_,rfl⟩
        · simp only[List.length_append,List.length_singleton];omega
        · omega
      · rw[hmet]
        rcases o4 with ⟨hr,rfl⟩|⟨hr,rfl⟩
        · rw[List.mem_append,hout,List.mem_singleton]
          constructor
          · rintro (⟨h1,h2⟩|rfl)
            · exact ⟨h1,.inl h2⟩
            · exact ⟨hr,.inr rfl⟩
          · rintro ⟨h1,h2|h2⟩
            · exact .inl ⟨h1,h2⟩
            · exact .inr h2
        · rw[hout]
          constructor
          · rintro ⟨h1,h2⟩
            exact ⟨h1,.inl h2⟩
          · rintro ⟨h1,h2|rfl⟩
            · exact ⟨h1,h2⟩
            · exact absurd h1 hr
end
/-- The functions of one memory. -/
def DS:Nat→Option FnS
  |15=>some ird15
  |_=>none
/-- The runs of functions without a body,and of those of one memory. -/
noncomputable abbrev X1:Run:=orR (xRun kx) (demS tabs (L (xRun kx)) DS 1)
instance up1:Up (xRun kx) X1:=⟨orR_left _ _⟩
instance d15:D15 X1 where
  s:=fun {x0 cx0 x1 vx1 r} hx0 hx1 h=>by
    unfold uF15 at h
    obtain ⟨e,h51,h⟩:=obind h
    have hlen:e=0→x1.length≤10000:=fun q=>by
      subst q
      simp only[bne_self_eq_false,cond_false] at h
      split at h
      · assumption
      · cases h
    have hr:r=if e=0 then (circC x1,0) else ([],e):=by
      by_cases q:e=0
      · subst q
        simp only[bne_self_eq_false,cond_false] at h
        split at h
        · exact (Option.some.inj h).symm
        · cases h
      · have q':(e != 0)=true:=by simpa using q
        rw[q'] at h
        rw[if_neg q]
        exact (Option.some.inj h).symm
    have w:=circ_run (X:=xRun kx) (inlC_good (G:=tabs) (R:=L (xRun kx)) (D:=DS) 0) hx0 hx1 h51 hlen
    rw[← hr] at w
    have k:=fnS_wp (D:=DS) (f:=15) (fd:=ird15) (G:=tabs) (R:=L (xRun kx)) (k:=0) rfl (args:=[.agg (cx0.map I),.c (I vx1)]) (Nat.le_of_ble_eq_true rfl) (hp:=[]) (ct:=1) (Q:=fun rs' _ _=>rs'=[.c (I (resC r.1)),.c (I (.int .i64 r.2))]) (sw_mono (inlC_good 0) (fun ex σ hp ct its q=>by cases ex<;>exact q) w)
    have e:=demS_of k
    have hX:X1 15 [.agg (cx0.map I),.c (I vx1)] []=_:=orR_right (fun args bs=>rfl) e
    have hL:L X1 15 [.agg (cx0.map I),.c (I vx1)] []=_:=lim_x rfl _ _ hX
    exact pc_dem hL (fun lent=>by simp only[traverse_cons,traverse_nil,back_sc (sv_fresh (resC_sv _)),back1_int]) ⟨_,rfl,resC_sv _⟩
end Go.Proofs.YtameabpbghichaaGreatDoor
