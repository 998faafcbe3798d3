/-
  The abstract machine beside Go's model: structs and arrays of plain cells that are compared; array literals.
-/
import Derived.Test.YtameabpbghichaaGreatDoorHM4Absa
import Derived.MapKept
import Derived.ChangeKeysEq
import Derived.LoopN
import Derived.Orders
namespace Go.Abs
open Go.RowKit
def eqLeaf(P:Program)(t:Nat):Option Nat:=match P.underlying t with
  |some (.int _)=>some 0
  |some .string=>some 1
  |some .bool=>some 2
  |_=>none
def eqvF(P:Program)(rec:Nat→Option (List Nat)):List Field→Nat→Option (List Nat)
  |[],_=>some []
  |f::fs,off=>match rec f.type with
    | some ks=>if f.name ≠ "_" ∧ f.offset = off ∧ (tyOk P f.type ks.length true || tyOk P f.type ks.length false) = true then (eqvF P rec fs (off + ks.length)).map (ks ++ ·) else none
    |none=>none
def eqvT(P:Program):Nat→Nat→Option (List Nat)
  |0,_=>none
  |d+1,t=>match P.underlying t with
    |some (.struct fs)=>if P.stoodInHeld t then none else eqvF P (eqvT P d) fs.toList 0
    |some (.array n e)=>match eqvT P d e with
      |some ks=>if (tyOk P e ks.length true||tyOk P e ks.length false)=true then some (List.replicate n ks).flatten else none
      |none=>none
    |_=>(eqLeaf P t).map fun k=>[k]
theorem eqCellsK_len:∀ {ks:List Nat} {xs ys:List AC} {b:Bool},eqCellsK ks xs ys=some b→xs.length=ks.length∧ys.length=ks.length
 |[],[],[],_,_=>⟨rfl,rfl⟩
 |k::ks,x::xs,y::ys,b,h=>by
  simp only[eqCellsK] at h
  split at h
  ·rename_i _ _ _ h2
   have:=eqCellsK_len h2
   simp[this.1,this.2]
  ·simp at h
 |[],[],_::_,_,h=>by simp[eqCellsK] at h
 |[],_::_,_,_,h=>by simp[eqCellsK] at h
 |_::_,[],_,_,h=>by simp[eqCellsK] at h
 |_::_,_::_,[],_,h=>by simp[eqCellsK] at h
theorem eqCellsK_app:∀ {k1 k2:List Nat} {xs ys:List AC} {b:Bool},eqCellsK (k1++k2) xs ys=some b→∃ b1 b2,eqCellsK k1 (xs.take k1.length) (ys.take k1.length)=some b1∧eqCellsK k2 (xs.drop k1.length) (ys.drop k1.length)=some b2∧b=(b1&&b2)
 |[],k2,xs,ys,b,h=>⟨true,b,by simp[eqCellsK],by simpa using h,by simp⟩
 |k::k1,k2,x::xs,y::ys,b,h=>by
  simp only[List.cons_append,eqCellsK] at h
  split at h
  ·rename_i c c2 h1 h2
   obtain ⟨b1,b2,q1,q2,q3⟩:=eqCellsK_app h2
   refine ⟨c&&b1,b2,?_,by simpa using q2,?_⟩
   ·simp only[List.length_cons,List.take_succ_cons,eqCellsK,h1,q1]
   ·have h:=Option.some.inj h
    rw[← h,q3,Bool.and_assoc]
  ·simp at h
 |_::_,_,[],_,_,h=>by simp[eqCellsK] at h
 |_::_,_,_::_,[],_,h=>by simp[eqCellsK] at h
section
variable {P:Program} {X:Cx} {E:Env} {s:St} {a:Act} {o:Oper} {G:Nat→List IV} {d:Nat} {v:AV} {h':Heap} {c':Nat}
theorem eqCellK_sound(w:World){k t d:Nat}(hu:eqLeaf P t=some k){x y:AC}{v u:Value}{b:Bool}(hx:CC X E x v)(hy:CC X E y u)(h:eqCellK k x y=some b):(Op.equalIn (d+1) t v u).run P w=.ok b w:=by
 unfold eqCellK at h;split at h
 ·rename_i k1 a1 k2 b1
  split at h
  ·rename_i hkk
   subst hkk;have h:=Option.some.inj h;have hx2:VR _ _ _ _:=hx;have hy2:VR _ _ _ _:=hy;cases hx2;cases hy2
   unfold eqLeaf at hu;split at hu<;>simp at hu;rename_i kk hk;rw[← h];exact run_equalIn_int w d t _ _ _ _ hk
  ·simp at h
 ·have h:=Option.some.inj h
  have hx2:VR _ _ _ _:=hx;have hy2:VR _ _ _ _:=hy;cases hx2 with
  |str _ s1 e1=>cases hy2 with
   |str _ s2 e2 =>
    unfold eqLeaf at hu;split at hu<;>simp at hu;rename_i hk;rw[← h,← e1,← e2,run_equalIn_string w d t _ _ hk,ByteArray.toList_eq,ByteArray.toList_eq]
 ·have h:=Option.some.inj h
  have hx2:VR _ _ _ _:=hx;have hy2:VR _ _ _ _:=hy;cases hx2;cases hy2
  unfold eqLeaf at hu;split at hu<;>simp at hu;rename_i hk;rw[← h];exact run_equalIn_bool' w d t _ _ hk
 ·simp at h
def EqvAt(P:Program)(X:Cx)(E:Env)(w:World)(d t:Nat)(ks:List Nat):Prop:=∀ (agg:Bool),tyOk P t ks.length agg=true→∀ (vx vy:List Value) (xs ys:List AC) (b:Bool),All2 (CC X E) xs vx→All2 (CC X E) ys vy→eqCellsK ks xs ys=some b →
  (Op.equalIn d t (valOf agg vx) (valOf agg vy)).run P w=.ok b w
theorem part_step{w:World}{d t off:Nat}{ks k2:List Nat}(h:EqvAt P X E w d t ks)(hty:(tyOk P t ks.length true||tyOk P t ks.length false)=true){vx vy:List Value}{xs ys:List AC}{b:Bool}(hx:All2 (CC X E) xs vx)(hy:All2 (CC X E) ys vy)
  (he:eqCellsK (ks++k2) (xs.drop off) (ys.drop off)=some b) :
  ∃ p q b1 b2,(part t vx.toArray off).run P w=.ok p w∧(part t vy.toArray off).run P w=.ok q w∧(Op.equalIn d t p q).run P w=.ok b1 w∧eqCellsK k2 (xs.drop (off+ks.length)) (ys.drop (off+ks.length))=some b2∧b=(b1&&b2):=by
 obtain ⟨b1,b2,q1,q2,q3⟩:=eqCellsK_app he;obtain ⟨l1,l2⟩:=eqCellsK_len he;simp only[List.length_drop,List.length_append] at l1 l2;have lx:=hx.length;have ly:=hy.length;have key:∀ agg,tyOk P t ks.length agg=true→∃ p q b1 b2,(part t vx.toArray off).run P w=.ok p w∧(part t vy.toArray off).run P w=.ok q w∧(Op.equalIn d t p q).run P w=.ok b1 w∧eqCellsK k2 (xs.drop (off+ks.length)) (ys.drop (off+ks.length))=some b2∧b=(b1&&b2):=by
  intro agg ha;have fx:ks.length=0∨off+ks.length≤vx.toArray.size:=by
   rcases Nat.eq_zero_or_pos ks.length with h0|h0
   ·exact .inl h0
   ·exact .inr (by rw[List.size_toArray];omega)
  have fy:ks.length=0∨off+ks.length≤vy.toArray.size:=by
   rcases Nat.eq_zero_or_pos ks.length with h0|h0
   ·exact .inl h0
   ·exact .inr (by rw[List.size_toArray];omega)
  refine ⟨_,_,b1,b2,run_part_cells ha w vx.toArray off fx,run_part_cells ha w vy.toArray off fy,?_,by rw[← List.drop_drop,← List.drop_drop];exact q2,q3⟩;exact h agg ha _ _ _ _ b1 ((hx.drop off).take ks.length) ((hy.drop off).take ks.length) q1
 rcases Bool.or_eq_true .. ▸ hty with h|h
 ·exact key true h
 ·exact key false h
theorem eqvF_sound{w:World}{d:Nat}{rec:Nat→Option (List Nat)}(hr:∀ t ks,rec t=some ks→EqvAt P X E w d t ks):∀ (fs:List Field) (off:Nat) (ks:List Nat),eqvF P rec fs off=some ks→∀ (vx vy:List Value) (xs ys:List AC) (b:Bool),
  All2 (CC X E) xs vx→All2 (CC X E) ys vy→eqCellsK ks (xs.drop off) (ys.drop off)=some b→(Op.eqFields d vx.toArray vy.toArray fs).run P w=.ok b w
 |[],off,ks,h,vx,vy,xs,ys,b,hx,hy,he=>by
  simp[eqvF] at h
  subst h
  have:b=true:=by
   obtain ⟨l1,l2⟩:=eqCellsK_len he
   have e1:=List.length_eq_zero_iff.1 l1
   have e2:=List.length_eq_zero_iff.1 l2
   rw[e1,e2] at he
   simpa[eqCellsK] using he.symm
  subst this
  simp[Op.eqFields]
 |f::fs,off,ks,h,vx,vy,xs,ys,b,hx,hy,he=>by
  simp only[eqvF] at h
  split at h
  ·rename_i k1 hk1
   split at h
   ·rename_i hc
    obtain ⟨h1,h2,h3⟩:=hc
    rw[Option.map_eq_some_iff] at h
    obtain ⟨k2,hk2,rfl⟩:=h
    obtain ⟨p,q,b1,b2,r1,r2,r3,r4,r5⟩:=part_step (hr f.type k1 hk1) h3 hx hy he
    have ih:=eqvF_sound hr fs (off+k1.length) k2 hk2 vx vy xs ys b2 hx hy r4
    simp only[Op.eqFields,h1,ne_eq,not_false_eq_true,if_true,h2,Sem.run_bind,r1,r2,r3,Result.andThen_ok]
    cases b1
    ·simp[r5]
    ·simp only[Bool.not_true,Bool.false_eq_true,if_false,r5,Bool.true_and]
     exact ih
   ·simp at h
  ·simp at h
theorem eqItems_sound{w:World}{d e:Nat}{ks:List Nat}(hr:EqvAt P X E w d e ks)(hty:(tyOk P e ks.length true||tyOk P e ks.length false)=true):∀ (n i:Nat) (vx vy:List Value) (xs ys:List AC) (b:Bool),
  All2 (CC X E) xs vx→All2 (CC X E) ys vy→eqCellsK (List.replicate n ks).flatten (xs.drop (i*ks.length)) (ys.drop (i*ks.length))=some b→(Op.eqItems d e ks.length vx.toArray vy.toArray (List.range' i n)).run P w=.ok b w
 |0,i,vx,vy,xs,ys,b,hx,hy,he=>by
  have:b=true:=by
   simp only[List.replicate_zero,List.flatten_nil] at he
   obtain ⟨l1,l2⟩:=eqCellsK_len he
   have e1:=List.length_eq_zero_iff.1 l1
   have e2:=List.length_eq_zero_iff.1 l2
   rw[e1,e2] at he
   simpa[eqCellsK] using he.symm
  subst this
  simp[Op.eqItems]
 |n+1,i,vx,vy,xs,ys,b,hx,hy,he=>by
  rw[List.replicate_succ,List.flatten_cons] at he
  obtain ⟨p,q,b1,b2,r1,r2,r3,r4,r5⟩:=part_step hr hty hx hy he
  have e1:i*ks.length+ks.length=(i+1)*ks.length:=by rw[Nat.add_mul];omega
  rw[e1] at r4
  have ih:=eqItems_sound hr hty n (i+1) vx vy xs ys b2 hx hy r4
  rw[List.range'_succ]
  simp only[Op.eqItems,Sem.run_bind,r1,r2,r3,Result.andThen_ok]
  cases b1
  ·simp[r5]
  ·simp only[Bool.not_true,Bool.false_eq_true,if_false,r5,Bool.true_and]
   exact ih
theorem cellsOf_tyOk{e n:Nat}(h:(tyOk P e n true||tyOk P e n false)=true):P.cellsOf e=n∧∃ i,P.info? e=some i:=by
 have key:∀ agg,tyOk P e n agg=true→P.cellsOf e=n∧∃ i,P.info? e=some i:=by
  intro agg h;unfold tyOk at h;split at h
  ·rename_i i d hi _
   simp only[Bool.and_eq_true,beq_iff_eq] at h;exact ⟨by simp[Program.cellsOf,hi,h.1.1],i,hi⟩
  ·simp at h
 rcases Bool.or_eq_true .. ▸ h with h|h
 ·exact key _ h
 ·exact key _ h
theorem eqv_sound(w:World)(d:Nat):∀ (m t:Nat) (ks:List Nat),eqvT P m t=some ks→EqvAt P X E w (d+m) t ks
 |0,t,ks,h=>by simp[eqvT] at h
 |m+1,t,ks,h=>by
  intro agg hty vx vy xs ys b hx hy he
  have hag:∀ dd,P.underlying t=some dd→agg=aggD dd:=fun dd hd=>by
   unfold tyOk at hty
   split at hty
   ·rename_i i d2 hi h2
    rw[hd] at h2
    have h2:=Option.some.inj h2
    subst h2
    simp only[Bool.and_eq_true,beq_iff_eq] at hty
    exact hty.1.2.symm
   ·simp at hty
  simp only[eqvT] at h
  split at h
  ·rename_i fs hu
   have:=hag _ hu
   simp only[aggD] at this
   subst this
   split at h
   ·simp at h
   ·rename_i hst
    have hfs:P.fieldsOf t=fs:=by simp[Program.fieldsOf,hu]
    simp only[valOf,if_true]
    rw[show d+(m+1)=(d+m)+1 from rfl,run_equalIn_struct w (d+m) t vx.toArray vy.toArray (by rw[hfs];exact hu) (by simpa using hst),hfs]
    exact eqvF_sound (fun t ks h=>eqv_sound w d m t ks h) fs.toList 0 ks h vx vy xs ys b hx hy (by simpa using he)
  ·rename_i n e hu
   have:=hag _ hu
   simp only[aggD] at this
   subst this
   split at h
   ·rename_i k1 hk1
    split at h
    ·rename_i h3
     have h:=Option.some.inj h
     subst h
     obtain ⟨hc,inf,hi⟩:=cellsOf_tyOk h3
     simp only[valOf,if_true]
     rw[show d+(m+1)=(d+m)+1 from rfl,run_equalIn_array w (d+m) vx.toArray vy.toArray hu hi,hc,List.range_eq_range']
     exact eqItems_sound (eqv_sound w d m e k1 hk1) h3 n 0 vx vy xs ys b hx hy (by simpa using he)
    ·simp at h
   ·simp at h
  ·rename_i hn1 hn2
   rw[Option.map_eq_some_iff] at h
   obtain ⟨k,hk,rfl⟩:=h
   obtain ⟨l1,l2⟩:=eqCellsK_len he
   obtain ⟨x,rfl⟩:=List.length_eq_one_iff.1 l1
   obtain ⟨y,rfl⟩:=List.length_eq_one_iff.1 l2
   cases hx with
   |cons hx hx2=>cases hx2;cases hy with
    |cons hy hy2 =>
     cases hy2
     have hf:agg=false:=by
      unfold eqLeaf at hk
      split at hk<;>simp at hk<;>(rename_i hu;exact hag _ hu)
     subst hf
     simp only[valOf,List.headD_cons,Bool.false_eq_true,if_false]
     have he2:eqCellK k x y=some b:=by
      simp only[eqCellsK] at he
      split at he
      ·rename_i c c2 h1 h2
       simp at h2
       subst h2
       simpa[h1] using he
      ·simp at he
     exact eqCellK_sound w hk hx hy he2
def eqvOk(P:Program)(t:Nat)(ks:List Nat):Bool:=eqvT P 16 t==some ks&&tyOk P t ks.length true&&P.eqGuardType P.depth t==false
theorem op_eqv(hW:WR X E)(hT:TR X E s a)(hh:E.h=s.hp)(hc:E.ct=s.ct){neg:Bool}{t u:Nat}{ks:List Nat}{x y:Operand}{x' y':Opd}(ho:o.op=.binOp (if neg then .neq else .eql) t x y u)
  (hx:okOpd x x'=true) (hy:okOpd y y'=true) (hu:eqvOk P t ks=true) (hs:step G s d (.eqv neg ks x' y')=some (v,h',c')):OpOk P X E o a.eval v h' c':=by
 have rx:=ev_sound hT hx;have ry:=ev_sound hT hy;simp only[eqvOk,Bool.and_eq_true,beq_iff_eq] at hu;obtain ⟨⟨h1,h2⟩,h3⟩:=hu;simp only[step] at hs;split at hs
 ·rename_i xs ys e1 e2
  obtain ⟨r,q1,rfl,rfl,rfl⟩:=okv_eq hs;rw[Option.map_eq_some_iff] at q1;obtain ⟨b,hb,rfl⟩:=q1;rw[e1] at rx;rw[e2] at ry;obtain ⟨vx,hvx,rx⟩:=rx;obtain ⟨vy,hvy,ry⟩:=ry;have key:=eqv_sound (X:=X) (E:=E) E.w 9984 16 t ks h1 true h2 vx vy xs ys b rx ry hb;simp only[valOf,if_true] at key;rw[← hh,← hc];refine OpOk.pure hW (x:=.bool (if neg then !b else b)) ?_ (VR.bool _);cases neg<;>simp[execOp,ho,hvx,hvy,run_eqGuard_agg E.w _ t x y vx.toArray vy.toArray h3,run_eql_struct,run_neq_struct,key]
 ·simp at hs
def buildAOk(P:Program)(t:Nat)(zero:List IV)(places:List (Nat×Nat)):Bool :=
  match P.info? t,P.underlying t with
  |some it,some (.array n e)=>match it.zero with
    |some z=>(P.info? e).isSome&&constIVs z.cells.toList zero&&places==(List.range n).map fun i=>(i*P.cellsOf e,P.cellsOf e)
    |none=>false
  |_,_=>false
theorem fill_mono{f g:Nat→Option (Nat×Nat)}(h:∀ i p,f i=some p→g i=some p):∀ (ps:List (Nat×Value)) (cc r:Array Value),Instr.fill f cc ps=some r→Instr.fill g cc ps=some r
 |[],cc,r,e=>by simpa[Instr.fill] using e
 |(i,v)::ps,cc,r,e=>by
  simp only[Instr.fill] at e ⊢
  cases hf:f i with
  |none=>simp[hf] at e
  |some p =>
   obtain ⟨off,n⟩:=p
   rw[h i (off,n) hf]
   rw[hf] at e
   simp only at e ⊢
   split at e
   ·simp at e
   ·rename_i hc
    rw[if_neg hc]
    exact fill_mono h ps _ r e
theorem op_buildA(hW:WR X E)(hT:TR X E s a)(hh:E.h=s.hp)(hc:E.ct=s.ct){t:Nat}{zero:List IV}{places:List (Nat×Nat)}{parts:Array (Nat×Operand)}{parts':List (Nat×Opd)}
  (ho:o.op=.build t parts) (hp:okParts parts.toList parts'=true) (hb:buildAOk P t zero places=true) (hs:step G s d (.build zero places parts')=some (v,h',c')):OpOk P X E o a.eval v h' c':=by
 unfold buildAOk at hb;split at hb
 ·rename_i it n e hi hu
  split at hb
  ·rename_i z hz
   simp only[Bool.and_eq_true,beq_iff_eq] at hb;obtain ⟨⟨hb0,hb1⟩,rfl⟩:=hb;simp only[step] at hs;split at hs
   ·rename_i ps hps
    obtain ⟨a1,h1,rfl,rfl,rfl⟩:=ok1_eq hs;cases hfl:fillP ((List.range n).map fun i=>(i*P.cellsOf e,P.cellsOf e)) (zero.map I) ps with
    |none=>simp[hfl] at h1
    |some cs =>
     simp[hfl] at h1;subst h1;have hpr:=parts_sound hT hp hps;have hz2:All2 (CC X E) (zero.map I) z.cells.toList:=(constIVs_sound (p:=okc X E) (h:=E.w.heap) hb1).map I fun _ _ r=>r;obtain ⟨cc',q1,q2⟩:=fillP_sound _ ps _ _ _ cs hpr hz2 hfl;rw[← hh,← hc];refine OpOk.pure hW (x:=.agg cc') ?_ ⟨cc'.toList,by simp,q2⟩;cases hie:P.info? e with
     |none =>
      rw[hie] at hb0;simp at hb0
     |some ie =>
      have hce:P.cellsOf e=ie.size:=by simp[Program.cellsOf,hie]
      have hbt:P.built t (parts.map fun (i,x)=>(i,a.eval x)).toList=some cc':=by
       unfold Program.built;simp only[hi,hu,hz,hie];refine fill_mono (f:=(((List.range n).map fun i=>(i*P.cellsOf e,P.cellsOf e)).toArray[·]?)) (fun i p hp=>?_) _ _ _ ?_
       ·simp only[List.getElem?_toArray,List.getElem?_map] at hp
        rw[Option.map_eq_some_iff] at hp;obtain ⟨j,hj,rfl⟩:=hp
        have:=List.getElem?_eq_some_iff.1 hj
        obtain ⟨_,hj⟩:=this;simp at hj;rw[hj,hce]
       ·rw[← q1]
        congr 1;simp
      simp[execOp,ho,run_build E.w t _ cc' hbt]
   ·simp at hs
  ·simp at hb
 ·simp at hb
end
section
variable {P:Program} {X:Cx} {E:Env} {s:St} {a:Act} {o:Oper} {d:Nat} {v:AV} {h':Heap} {c':Nat} {G:Nat→List IV}
def keyD:TypeDesc→Nat→Bool
  |.int _,0=>true
  |.string,1=>true
  |.bool,2=>true
  |_,_=>false
def keyT(P:Program)(k kt:Nat):Bool:=match P.underlying k with
  |some (.struct fs)=>decide (3≤kt)&&eqvT P 16 k==some (ksOf kt)&&tyOk P k (ksOf kt).length true&&fs.toList.all fun f=>(eqLeaf P f.type).isSome
  |some d=>keyD d kt
  |none=>false
def mapT(P:Program)(t kt:Nat):Bool:=match P.underlying t with
  |some (.map k _)=>keyT P k kt
  |_=>false
theorem mapT_eq{t kt:Nat}(h:mapT P t kt=true):∃ k e,P.underlying t=some (.map k e)∧keyT P k kt=true:=by
 unfold mapT at h;split at h
 ·rename_i k e hk;exact ⟨k,e,hk,h⟩
 ·simp at h
def mapZ(P:Program)(t:Nat)(zero:List IV)(agg:Bool):Bool:=match P.underlying t,zero,agg with
  |some (.map _ e),[x],false=>match P.info? e with
    |some i=>match i.zero with
      |some z=>constIV z x
      |none=>false
    |none=>false
  |_,_,_=>false
theorem mapZ_eq{t:Nat}{zero:List IV}{agg:Bool}(h:mapZ P t zero agg=true):∃ k e x i z,P.underlying t=some (.map k e)∧zero=[x]∧agg=false∧P.info? e=some i∧i.zero=some z∧constIV z x=true:=by
 unfold mapZ at h;split at h
 ·rename_i k e x hk
  split at h
  ·rename_i i hi
   split at h
   ·rename_i z hz;exact ⟨k,e,x,i,z,hk,rfl,rfl,hi,hz,h⟩
   ·simp at h
  ·simp at h
 ·simp at h
inductive KCell:Nat→AC→Value→Prop
  |int (k:IntKind) (n:Int):KCell 0 (I (.int k n)) (.int k n)
  |str (l:List UInt8) (s:ByteArray):s.data.toList=l→KCell 1 (I (.str l)) (.string s)
  |bool (b:Bool):KCell 2 (I (.bool b)) (.bool b)
inductive KCells:List Nat→List AC→List Value→Prop
  |nil:KCells [] [] []
  |cons {k:Nat} {ks:List Nat} {x:AC} {xs:List AC} {v:Value} {vs:List Value}:KCell k x v→KCells ks xs vs→KCells (k::ks) (x::xs) (v::vs)
theorem KCell.cc{k:Nat}{x:AC}{v:Value}(h:KCell k x v):CC X E x v:=by
 cases h with
 |int=>exact VR.int _ _
 |str _ _ h=>exact VR.str _ _ h
 |bool=>exact VR.bool _
theorem KCells.cc{k:List Nat}{x:List AC}{v:List Value}(h:KCells k x v):All2 (CC X E) x v:=by
 induction h with
 |nil=>exact .nil
 |cons h _ ih=>exact .cons h.cc ih
theorem KCell.kind{k:Nat}{x:AC}{v:Value}(h:KCell k x v):kindC x=k:=by cases h<;>rfl
theorem KCells.kind{k:List Nat}{x:List AC}{v:List Value}(h:KCells k x v):x.map kindC=k:=by
 induction h with
 |nil=>rfl
 |cons h _ ih=>simp[h.kind,ih]
theorem KCells.len{k:List Nat}{x:List AC}{v:List Value}(h:KCells k x v):v.length=k.length:=by
 induction h with
 |nil=>rfl
 |cons _ _ ih=>simp[ih]
theorem kcell_of{k:Nat}{x:AC}{v:Value}(r:CC X E x v)(e:eqCellK k x x=some true):KCell k x v:=by
 unfold eqCellK at e;split at e
 ·rename_i h1 h2;have r2:VR _ _ _ _:=r;cases r2;exact .int _ _
 ·have r2:VR _ _ _ _:=r;cases r2;rename_i h;exact .str _ _ h
 ·have r2:VR _ _ _ _:=r;cases r2;exact .bool _
 ·simp at e
theorem kcells_of:∀ {k:List Nat} {x:List AC} {v:List Value},All2 (CC X E) x v→eqCellsK k x x=some true→KCells k x v
 |[],[],_,r,_=>by cases r;exact .nil
 |k::ks,x::xs,_,r,e=>by
  cases r with
  |cons r1 r2 =>
   simp only[eqCellsK] at e
   split at e
   ·rename_i a b h1 h2
    have e:=Option.some.inj e
    simp only[Bool.and_eq_true] at e
    obtain ⟨rfl,rfl⟩:=e
    exact .cons (kcell_of r1 h1) (kcells_of r2 h2)
   ·simp at e
 |[],_::_,_,_,e=>by simp[eqCellsK] at e
 |_::_,[],_,_,e=>by simp[eqCellsK] at e
theorem KCell.bits{k:Nat}{x y:AC}{v u:Value}(h:KCell k x v)(r:CC X E y u)(e:eqCellK k x y=some true)(n:Nat):Instr.sameBits (n+1) u v=true:=by
 cases h with
 |int kk m =>
  unfold eqCellK at e;split at e
  ·rename_i k1 n1 k2 n2 h1
   simp at h1;obtain ⟨rfl,rfl⟩:=h1;split at e
   ·rename_i hk;subst hk
    simp at e;have r2:VR _ _ _ _:=r;cases r2
    simp[Instr.sameBits,e]
   ·simp at e
  ·rename_i h1;simp at h1
  ·rename_i h1;simp at h1
  ·simp at e
 |str l z hz =>
  unfold eqCellK at e;split at e
  ·rename_i h1;simp at h1
  ·rename_i l1 l2 h1
   simp at h1;subst h1;simp at e;have r2:VR _ _ _ _:=r;cases r2 with
   |str _ z2 hz2 =>
    have hzz:z2=z:=by
     subst hz;subst hz2;cases z;cases z2;simp at e;simp[e]
    simp only[Instr.sameBits,hzz];exact (MapKept.bytes_beq _ _).2 rfl
  ·rename_i h1;simp at h1
  ·simp at e
 |bool b1 =>
  unfold eqCellK at e;split at e
  ·rename_i h1;simp at h1
  ·rename_i h1;simp at h1
  ·rename_i b2 b3 h1
   simp at h1;subst h1;simp at e;have r2:VR _ _ _ _:=r;cases r2
   simp[Instr.sameBits,e]
  ·simp at e
theorem KCells.bits{k:List Nat}{x:List AC}{v:List Value}(h:KCells k x v)(n:Nat):∀ {y:List AC} {u:List Value},All2 (CC X E) y u→eqCellsK k x y=some true→u.length=v.length∧((u.zip v).all fun (a,b)=>Instr.sameBits (n+1) a b)=true:=by
 induction h with
 |nil =>
  intro y u r e;cases r with
  |nil=>simp
  |cons=>simp[eqCellsK] at e
 |cons h1 h2 ih =>
  intro y u r e;cases r with
  |nil=>simp[eqCellsK] at e
  |cons r1 r2 =>
   simp only[eqCellsK] at e;split at e
   ·rename_i a b q1 q2
    have e:=Option.some.inj e;simp only[Bool.and_eq_true] at e;obtain ⟨rfl,rfl⟩:=e;obtain ⟨e1,e2⟩:=ih r2 q2;exact ⟨by simp[e1],by simp only[List.zip_cons_cons,List.all_cons,h1.bits r1 q1 n,e2,Bool.and_self]⟩
   ·simp at e
inductive KeyR:Nat→A1→Value→Prop
  |int (k:IntKind) (n:Int):KeyR 0 (.c (.r (.i (.int k n)))) (.int k n)
  |str (l:List UInt8) (s:ByteArray):s.data.toList=l→KeyR 1 (.c (.r (.i (.str l)))) (.string s)
  |bool (b:Bool):KeyR 2 (.c (.r (.i (.bool b)))) (.bool b)
  |agg (kt:Nat) (xs:List AC) (vs:List Value):3≤kt→KCells (ksOf kt) xs vs→KeyR kt (.agg xs) (.agg vs.toArray)
theorem key_sound{av:AV}{x:Value}{kt:Nat}{k:A1}(r:AVR X E av x)(e:plainKey kt av=some k):KeyR kt k x:=by
 unfold plainKey at e;split at e
 ·split at e
  ·rename_i h;subst h;simp at e;subst e;have r2:VR _ _ _ _:=r;cases r2;exact .int _ _
  ·simp at e
 ·split at e
  ·rename_i h;subst h;simp at e;subst e;have r2:VR _ _ _ _:=r;cases r2;rename_i h;exact .str _ _ h
  ·simp at e
 ·split at e
  ·rename_i h;subst h;simp at e;subst e;have r2:VR _ _ _ _:=r;cases r2;exact .bool _
  ·simp at e
 ·split at e
  ·rename_i h
   simp at e;subst e;obtain ⟨vs,hv,r⟩:=r;subst hv;exact .agg _ _ _ h.1 (kcells_of r h.2)
  ·simp at e
 ·simp at e
theorem KeyR.a1{kt:Nat}{k:A1}{x:Value}(h:KeyR kt k x):A1R X E k x:=by
 cases h with
 |int=>exact VR.int _ _
 |str _ _ h=>exact VR.str _ _ h
 |bool=>exact VR.bool _
 |agg _ xs vs _ h=>exact ⟨vs,rfl,h.cc⟩
theorem keyD_lt{d:TypeDesc}{kt:Nat}(h:keyD d kt=true):kt<3:=by
 unfold keyD at h;split at h
 ·omega
 ·omega
 ·omega
 ·simp at h
theorem KeyR.same{kt:Nat}{k:A1}{x:Value}(h:KeyR kt k x){d:TypeDesc}(hd:keyD d kt=true){k':A1}{y:Value}(r:A1R X E k' y){b:Bool}(e:eqKey k k'=some b) :
  Instr.sameNow d x y=some b∧(b=true→Instr.sameBits 10000 y x=true):=by
 have e9:(10000:Nat)=9999+1:=rfl;have hlt:=keyD_lt hd;cases k' with
 |agg l=>cases h<;>first|(simp[eqKey] at e;done)|omega
 |c c' =>
  cases h with
  |agg _ xs vs h3 _=>omega
  |int kk n =>
   simp only[eqKey] at e;unfold eqCell at e;split at e
   ·rename_i k1 n1 k2 n2 h1
    simp at h1;obtain ⟨rfl,rfl⟩:=h1;split at e
    ·rename_i hk;subst hk
     simp at e;have r2:VR _ _ _ _:=r;cases r2
     cases d<;>simp[keyD] at hd
     refine ⟨by simp[Instr.sameNow,e],fun hb=>?_⟩;subst hb;have:n=n2:=by simpa using e
     rw[e9];simp[Instr.sameBits,this]
    ·simp at e
   ·rename_i h1;simp at h1
   ·rename_i h1;simp at h1
   ·simp at e
  |str l z hz =>
   simp only[eqKey] at e;unfold eqCell at e;split at e
   ·rename_i h1;simp at h1
   ·rename_i l1 l2 h1
    simp at h1;subst h1;simp at e;have r2:VR _ _ _ _:=r;cases r2 with
    |str _ z2 hz2 =>
     cases d<;>simp[keyD] at hd
     have key:(z==z2)=(l==l2):=by
      subst hz;subst hz2;rw[Bool.eq_iff_iff,MapKept.bytes_beq,beq_iff_eq];exact ⟨fun h=>by rw[h],fun h=>by cases z;cases z2;simp at h;simp[h]⟩
     refine ⟨by show some (z==z2)=_;rw[key,← e],fun hb=>?_⟩;subst hb;have hl:l=l2:=by simpa using e
     have hzz:z2=z:=by
      subst hz;subst hz2;cases z;cases z2;simp at hl;simp[hl]
     rw[e9];simp only[Instr.sameBits,hzz];exact (MapKept.bytes_beq _ _).2 rfl
   ·rename_i h1;simp at h1
   ·simp at e
  |bool b1 =>
   simp only[eqKey] at e;unfold eqCell at e;split at e
   ·rename_i h1;simp at h1
   ·rename_i h1;simp at h1
   ·rename_i b2 b3 h1
    simp at h1;subst h1;simp at e;have r2:VR _ _ _ _:=r;cases r2
    cases d<;>simp[keyD] at hd
    refine ⟨by simp[Instr.sameNow,e],fun hb=>?_⟩;subst hb;have:b1=b3:=by simpa using e
    rw[e9];simp[Instr.sameBits,this]
   ·simp at e
theorem find_none{kt:Nat}{k:A1}{x:Value}(h:KeyR kt k x){d:TypeDesc}(hd:keyD d kt=true){es:List Ent}{ces:List MapEntry}(r:All2 (EntR X E) es ces)(e:findEnt k es=some none) :
  ∀ i,Instr.findNow d x ces i=some none:=by
 induction r with
 |nil=>intro i;rfl
 |cons r1 _ ih =>
  rename_i en c l m _;intro i;simp only[findEnt] at e;split at e
  ·simp at e
  ·rename_i hq
   have:=(h.same hd r1.key hq).1
   simp only[Instr.findNow,this,ih e]
  ·simp at e
theorem find_some{kt:Nat}{k:A1}{x:Value}(h:KeyR kt k x){d:TypeDesc}(hd:keyD d kt=true){es:List Ent}{ces:List MapEntry}(r:All2 (EntR X E) es ces){w:A1}(e:findEnt k es=some (some w)) :
  ∃ (j:Nat) (c:MapEntry) (en:Ent),ces[j]?=some c∧(∀ i,Instr.findNow d x ces i=some (some (i+j,c.val)))∧A1R X E w c.val∧Instr.sameBits 10000 c.key x=true ∧
   es.find? (fun e=>eqKey k e.key==some true)=some en∧c.born=en.born∧(∀ (v:A1) (vv:Value),A1R X E v vv→All2 (EntR X E) (setEnt k v es) (ces.modify j fun e=>{e with key:=x,val:=vv})):=by
 induction r with
 |nil=>simp[findEnt] at e
 |cons r1 r2 ih =>
  rename_i en c l m;simp only[findEnt] at e;split at e
  ·rename_i hq
   simp at e;subst e;obtain ⟨h1,h2⟩:=h.same hd r1.key hq;refine ⟨0,c,en,rfl,fun i=>by simp[Instr.findNow,h1],r1.val,h2 rfl,by simp[List.find?,hq],r1.born,fun v vv hv=>?_⟩;simp only[setEnt,hq];exact .cons ⟨h.a1,hv,r1.born⟩ r2
  ·rename_i hq
   obtain ⟨h1,_⟩:=h.same hd r1.key hq;obtain ⟨j,c',en',q1,q2,q3,q4,q5,q6,q7⟩:=ih e;refine ⟨j+1,c',en',by simpa using q1,fun i=>?_,q3,q4,by simp[List.find?,hq,q5],q6,fun v vv hv=>?_⟩
   ·simp only[Instr.findNow,h1,q2]
    congr 3;omega
   ·simp only[setEnt,hq]
    exact .cons r1 (q7 v vv hv)
  ·simp at e
theorem born_some{es:List Ent}{ces:List MapEntry}(r:All2 (EntR X E) es ces){n:Nat}{v:A1}{vv:Value}(hv:A1R X E v vv){es':List Ent}(e:setBorn n v es=some es') :
  ∃ j,ces.findIdx? (fun e=>(e.born:Int)==(n:Int))=some j∧All2 (EntR X E) es' (ces.modify j fun e=>{e with val:=vv}):=by
 induction r generalizing es' with
 |nil=>simp[setBorn] at e
 |cons r1 r2 ih =>
  rename_i en c l m;simp only[setBorn] at e;have hb:=r1.born;split at e
  ·rename_i hq
   simp at e;subst e;refine ⟨0,by simp[List.findIdx?_cons,hb,hq],.cons ⟨r1.key,hv,r1.born⟩ r2⟩
  ·rename_i hq
   cases hs:setBorn n v l with
   |none=>simp[hs] at e
   |some l' =>
    simp[hs] at e;subst e;obtain ⟨j,q1,q2⟩:=ih hs;have hne:¬ (c.born:Int)=(n:Int):=by rw[hb];omega
    refine ⟨j+1,by simp[List.findIdx?_cons,hne,q1],.cons r1 q2⟩
theorem put_map(hW:WR X E){b g:Nat}{es es':List Ent}{k k':Nat}(hm:E.h.mapAt b g=some (es,k)){ces':Array MapEntry}(r:All2 (EntR X E) es' ces'.toList) :
    ∃ E',E'.w={E.w with heap:=E.w.heap.setIfInBounds (E.m b).1 (.map ces' k')}∧E'.ct=E.ct∧Put X E E' b (.map g es' k') (E.m b).1∧BR X E' b (.map g es' k')∧Ext X E E':=by
  obtain ⟨hget,hcur⟩:=Heap.mapAt_eq hm
  obtain ⟨⟨ces,hces,_⟩,hgen,_⟩:=hW.blk b _ hget
  have hlt:=(Array.getElem?_eq_some_iff.1 hces).1
  have hP:Put X E {E with h:=E.h.set b (.map g es' k'),w:={E.w with heap:=E.w.heap.setIfInBounds (E.m b).1 (.map ces' k')}} b (.map g es' k') (E.m b).1 :=
    { h:=rfl,ct:=Nat.le_refl _,gen:=hgen,m:=fun _ _=>rfl,size:=by simp,heap:=fun c hc hn=>by simp[Ne.symm hn],c0:=.inr ⟨by simp[hget],rfl⟩,at_:=.inr ⟨by simp[hget],rfl⟩,
      old:=fun _=>⟨hcur,rfl,fun cc e fr h=>by rw[hces] at h;simp at h⟩,os:=rfl,tape:=rfl,output:=rfl }
  have hE:=hP.ext hW
  exact ⟨{E with h:=E.h.set b (.map g es' k'),w:={E.w with heap:=E.w.heap.setIfInBounds (E.m b).1 (.map ces' k')}},rfl,rfl,hP,⟨ces',by simp[hlt],r.mono fun _ _ q=>q.ext hE⟩,hE⟩
theorem check_leaf{t:Nat}(h:(eqLeaf P t).isSome=true)(b:Bool)(n:Nat)(v:Value)(w:World):(Instr.checkKey b (n+1) t v).run P w=.ok () w:=by
 unfold eqLeaf at h;unfold Instr.checkKey;cases hu:P.underlying t with
 |none=>simp[hu] at h
 |some d =>
  rw[hu] at h;simp only[Sem.run_bind,run_underlying hu,Result.andThen];cases d<;>simp_all
theorem check_fields{w:World}{b:Bool}{n:Nat}{rec:Nat→Option (List Nat)}{vs:Array Value}:∀ (fs:List Field) (off:Nat) (ks:List Nat),(fs.all fun f=>(eqLeaf P f.type).isSome)=true→eqvF P rec fs off=some ks→off+ks.length≤vs.size →
  (forIn (m:=Sem) fs PUnit.unit fun f _=>do
   if f.name ≠ "_" then
    Instr.checkKey b (n+1) f.type (← part f.type vs f.offset)
    pure (ForInStep.yield PUnit.unit)
   else pure (ForInStep.yield PUnit.unit)).run P w=.ok PUnit.unit w
 |[],_,_,_,_,_=>by simp
 |f::fs,off,ks,ha,h,hl=>by
  simp only[List.all_cons,Bool.and_eq_true] at ha
  simp only[eqvF] at h
  split at h
  ·rename_i k1 hk1
   split at h
   ·rename_i hc
    obtain ⟨h1,h2,h3⟩:=hc
    rw[Option.map_eq_some_iff] at h
    obtain ⟨k2,hk2,rfl⟩:=h
    rw[List.length_append] at hl
    have ih:=check_fields (w:=w) (b:=b) (n:=n) (vs:=vs) fs (off+k1.length) k2 ha.2 hk2 (by omega)
    have key:∃ v,(part f.type vs f.offset).run P w=.ok v w:=by
     rw[h2]
     rcases Bool.or_eq_true .. ▸ h3 with h|h
     ·exact ⟨_,run_part_cells h w vs off (.inr (by omega))⟩
     ·exact ⟨_,run_part_cells h w vs off (.inr (by omega))⟩
    obtain ⟨v,hv⟩:=key
    simp only[List.forIn_cons,Sem.run_bind,h1,ne_eq,not_false_eq_true,if_true,Result.andThen_ok,hv,check_leaf ha.1,Sem.run_pure]
    exact ih
   ·simp at h
  ·simp at h
theorem KeyR.check{kt:Nat}{k:A1}{x:Value}(h:KeyR kt k x){t:Nat}(hu:keyT P t kt=true)(b:Bool)(n:Nat)(w:World):(Instr.checkKey b (n+2) t x).run P w=.ok () w:=by
 unfold keyT at hu;split at hu
 ·rename_i fs hs
  simp only[Bool.and_eq_true,decide_eq_true_eq,beq_iff_eq] at hu;obtain ⟨⟨⟨h3,h4⟩,h5⟩,h6⟩:=hu;cases h with
  |int=>omega
  |str=>omega
  |bool=>omega
  |agg _ xs vs _ hc =>
   unfold eqvT at h4;rw[hs] at h4;dsimp only at h4;split at h4
   ·cases h4
   ·have:=check_fields (P:=P) (w:=w) (b:=b) (n:=n) (vs:=vs.toArray) fs.toList 0 (ksOf kt) h6 h4 (by simp[hc.len])
    rw[show n+2=(n+1)+1 from rfl];revert this;generalize n+1=m;intro this;unfold Instr.checkKey;rw[Sem.run_bind,run_underlying hs];simp only[Result.andThen_ok];rw[← Array.forIn_toList,Sem.run_bind,this];rfl
 ·rename_i d _ hd
  unfold Instr.checkKey;simp only[Sem.run_bind,run_underlying hd,Result.andThen];cases h with
  |agg _ xs vs h3 _=>have:=keyD_lt hu;omega
  |_=>cases d<;>simp_all [keyD]
 ·simp at hu
theorem ask_same{kt:Nat}{t:Nat}{fs:Array Field}(hs:P.underlying t=some (.struct fs))(hu:keyT P t kt=true){xs:List AC}{vs:List Value}(hc:KCells (ksOf kt) xs vs){k':A1}{y:Value}(r:A1R X E k' y){b:Bool}(e:eqKey (.agg xs) k'=some b)(w:World) :
  (Op.equal t (.agg vs.toArray) y).run P w=.ok b w∧(b=true→Instr.sameBits 10000 y (.agg vs.toArray)=true):=by
 unfold keyT at hu;rw[hs] at hu;simp only[Bool.and_eq_true,decide_eq_true_eq,beq_iff_eq] at hu;obtain ⟨⟨⟨h3,h4⟩,h5⟩,h6⟩:=hu;cases k' with
 |c _=>simp[eqKey] at e
 |agg ys =>
  obtain ⟨us,rfl,r⟩:=r;simp only[eqKey,hc.kind] at e;refine ⟨?_,fun hb=>?_⟩
  ·have:=eqv_sound (P:=P) (X:=X) (E:=E) w 9984 16 t (ksOf kt) h4 true h5 vs us xs ys b hc.cc r e
   simpa[Op.equal,Op.maxDepth,valOf] using this
  ·subst hb
   have e9:(10000:Nat)=9998+1+1:=rfl;obtain ⟨q1,q2⟩:=hc.bits 9998 r e;rw[e9];simp only[Instr.sameBits,List.size_toArray,q1,beq_self_eq_true,Bool.true_and];exact q2
theorem ask_none{kt:Nat}{t:Nat}{fs:Array Field}(hs:P.underlying t=some (.struct fs))(hu:keyT P t kt=true){xs:List AC}{vs:List Value}(hc:KCells (ksOf kt) xs vs)(w:World){es:List Ent}{ces:List MapEntry}(r:All2 (EntR X E) es ces)(e:findEnt (.agg xs) es=some none) :
  ∀ i,(Instr.findAsking t (.agg vs.toArray) ces i).run P w=.ok none w:=by
 induction r with
 |nil=>intro i;simp[Instr.findAsking]
 |cons r1 _ ih =>
  intro i;simp only[findEnt] at e;split at e
  ·simp at e
  ·rename_i hq
   have:=(ask_same hs hu hc r1.key hq w).1
   simp only[Instr.findAsking,Sem.run_bind,this,Result.andThen_ok,Bool.false_eq_true,if_false,ih e]
  ·simp at e
theorem ask_some{kt:Nat}{t:Nat}{fs:Array Field}(hs:P.underlying t=some (.struct fs))(hu:keyT P t kt=true){xs:List AC}{vs:List Value}(h3:3≤kt)(hc:KCells (ksOf kt) xs vs)(w:World){es:List Ent}{ces:List MapEntry}(r:All2 (EntR X E) es ces){av:A1}(e:findEnt (.agg xs) es=some (some av)) :
  ∃ (j:Nat) (c:MapEntry) (en:Ent),ces[j]?=some c∧(∀ i,(Instr.findAsking t (.agg vs.toArray) ces i).run P w=.ok (some (i+j,c.val)) w)∧A1R X E av c.val∧Instr.sameBits 10000 c.key (.agg vs.toArray)=true ∧
   es.find? (fun e=>eqKey (.agg xs) e.key==some true)=some en∧c.born=en.born∧(∀ (v:A1) (vv:Value),A1R X E v vv→All2 (EntR X E) (setEnt (.agg xs) v es) (ces.modify j fun e=>{e with key:=.agg vs.toArray,val:=vv})):=by
 induction r with
 |nil=>simp[findEnt] at e
 |cons r1 r2 ih =>
  rename_i en c l m;simp only[findEnt] at e;split at e
  ·rename_i hq
   simp at e;subst e;obtain ⟨h1,h2⟩:=ask_same hs hu hc r1.key hq w;refine ⟨0,c,en,rfl,fun i=>by simp[Instr.findAsking,h1],r1.val,h2 rfl,by simp[List.find?,hq],r1.born,fun v vv hv=>?_⟩;simp only[setEnt,hq];exact .cons ⟨(KeyR.agg kt xs vs h3 hc).a1,hv,r1.born⟩ r2
  ·rename_i hq
   obtain ⟨h1,_⟩:=ask_same hs hu hc r1.key hq w;obtain ⟨j,c',en',q1,q2,q3,q4,q5,q6,q7⟩:=ih e;refine ⟨j+1,c',en',by simpa using q1,fun i=>?_,q3,q4,by simp[List.find?,hq,q5],q6,fun v vv hv=>?_⟩
   ·simp only[Instr.findAsking,Sem.run_bind,h1,Result.andThen_ok,Bool.false_eq_true,if_false,q2]
    congr 3;omega
   ·simp only[setEnt,hq]
    exact .cons r1 (q7 v vv hv)
  ·simp at e
theorem key_none{kt:Nat}{k:A1}{x:Value}(h:KeyR kt k x){t:Nat}(hu:keyT P t kt=true)(w:World){es:List Ent}{ces:List MapEntry}(r:All2 (EntR X E) es ces)(e:findEnt k es=some none):(Instr.findKey t x ces).run P w=.ok none w:=by
 have hu0:=hu;unfold keyT at hu;split at hu
 ·rename_i fs hs
  simp only[Bool.and_eq_true,decide_eq_true_eq,beq_iff_eq] at hu;cases h with
  |int=>omega
  |str=>omega
  |bool=>omega
  |agg _ xs vs _ hc =>
   cases ces with
   |nil=>exact MapKept.run_findKey hs rfl
   |cons c ces =>
    have:=ask_none hs hu0 hc w r e 0
    simp only[Instr.findKey,Sem.run_bind,run_underlying hs,Result.andThen_ok,Instr.findNow,Instr.sameNow,this]
 ·rename_i d _ hd
  exact MapKept.run_findKey hd (find_none h hu r e 0)
 ·simp at hu
theorem key_some{kt:Nat}{k:A1}{x:Value}(h:KeyR kt k x){t:Nat}(hu:keyT P t kt=true)(w:World){es:List Ent}{ces:List MapEntry}(r:All2 (EntR X E) es ces){av:A1}(e:findEnt k es=some (some av)) :
  ∃ (j:Nat) (c:MapEntry) (en:Ent),ces[j]?=some c∧(Instr.findKey t x ces).run P w=.ok (some (0+j,c.val)) w∧A1R X E av c.val∧Instr.sameBits 10000 c.key x=true ∧
   es.find? (fun e=>eqKey k e.key==some true)=some en∧c.born=en.born∧(∀ (v:A1) (vv:Value),A1R X E v vv→All2 (EntR X E) (setEnt k v es) (ces.modify j fun e=>{e with key:=x,val:=vv})):=by
 have hu0:=hu;unfold keyT at hu;split at hu
 ·rename_i fs hs
  simp only[Bool.and_eq_true,decide_eq_true_eq,beq_iff_eq] at hu;cases h with
  |int=>omega
  |str=>omega
  |bool=>omega
  |agg _ xs vs h3 hc =>
   obtain ⟨j,c,en,q1,q2,q3,q4,q5,q6,q7⟩:=ask_some hs hu0 h3 hc w r e;refine ⟨j,c,en,q1,?_,q3,q4,q5,q6,q7⟩;cases ces with
   |nil=>simp at q1
   |cons c0 ces =>
    have:=q2 0
    simp only[Instr.findKey,Sem.run_bind,run_underlying hs,Result.andThen_ok,Instr.findNow,Instr.sameNow,this]
 ·rename_i d _ hd
  obtain ⟨j,c,en,q1,q2,q3,q4,q5,q6,q7⟩:=find_some h hu r e;exact ⟨j,c,en,q1,MapKept.run_findKey hd (q2 0),q3,q4,q5,q6,q7⟩
 ·simp at hu
theorem op_mkmap(hW:WR X E)(hh:E.h=s.hp)(hc:E.ct=s.ct){t:Nat}(ho:o.op=.makeMap t none)(hs:step G s d .mkmap=some (v,h',c')):OpOk P X E o a.eval v h' c':=by
 simp only[step] at hs;simp at hs;obtain ⟨rfl,rfl,rfl⟩:=hs;have hP:=Put.new X E d (.map E.ct [] 0) (E.w.alloc (.map #[] 0)) rfl (by simp) (fun k hk=>by show (E.w.heap.push _)[k]?=_;rw[Array.getElem?_push,if_neg (by omega)]) rfl rfl rfl;have hB:BR X (E.new d (.map E.ct [] 0) (E.w.alloc (.map #[] 0))) d (.map E.ct [] 0):=by
  refine ⟨#[],?_,.nil⟩;show (E.w.heap.push _)[(if d=d then (E.w.heap.size,0) else E.m d).1]?=_;simp
 rw[← hh,← hc];refine OpOk.put hW hP (x:=.map (some E.w.heap.size)) (by simp[execOp,ho,Instr.makeMap,newObj,Env.new,Sem.run]) hB ?_;exact ⟨rfl,Nat.lt_succ_self _,fun _=>by simp[Env.new]⟩
theorem op_lkp(hW:WR X E)(hT:TR X E s a)(hh:E.h=s.hp)(hc:E.ct=s.ct){t kt:Nat}{zero:List IV}{agg ok:Bool}{m k:Operand}{m' k':Opd}(ho:o.op=.lookup t m k ok)
  (hm:okOpd m m'=true) (hk:okOpd k k'=true) (ht:mapT P t kt=true) (hz:mapZ P t zero agg=true) (hs:step G s d (.lkp kt zero agg ok m' k')=some (v,h',c')):OpOk P X E o a.eval v h' c':=by
 have rm:=ev_sound hT hm;have rk:=ev_sound hT hk;obtain ⟨kty,ety,hu,hkt⟩:=mapT_eq ht;obtain ⟨kty2,ety2,x0,i0,z0,hu2,rfl,rfl,hi,hz0,hcz⟩:=mapZ_eq hz;rw[hu] at hu2;simp at hu2;obtain ⟨rfl,rfl⟩:=hu2;have rz:A1R X E (.c (I x0)) z0:=constIV_sound hcz;have fin:∀ (av:A1) (val:Value) (b:Bool),A1R X E av val→AVR X E (if ok then .tup [av,.c (I (.bool b))] else .v av) (if ok then .tuple #[val,.bool b] else val):=by
  intro av val b r;cases ok with
  |true=>exact ⟨[val,.bool b],rfl,.cons r (.cons (VR.bool b) .nil)⟩
  |false=>exact r
 simp only[step] at hs;split at hs
 ·rename_i b g kk e1 e2
  split at hs
  ·rename_i es clk hmap
   rw[← hh] at hmap;obtain ⟨hget,hcur⟩:=Heap.mapAt_eq hmap;obtain ⟨⟨ces,r1,r2⟩,_,_⟩:=hW.blk b _ hget;rw[e1] at rm;obtain ⟨_,_,q3⟩:=rm;have q3:=q3 hcur;have hkr:=key_sound rk e2;have hck:=hkr.check (P:=P) hkt ces.isEmpty 9998 E.w;split at hs
   ·rename_i r hf
    cases r with
    |none =>
     simp[mk1] at hs;obtain ⟨rfl,rfl,rfl⟩:=hs;have hfk:=key_none hkr hkt E.w r2 hf;rw[← hh,← hc];refine OpOk.pure hW (x:=if ok then .tuple #[z0,.bool false] else z0) ?_ (by have:=fin _ _ false rz;simpa using this);simp[execOp,ho,Instr.lookup,run_underlying hu,q3,MapKept.run_getObj_map r1,hck,hfk,zeroValue,typeInfo,hi,hz0]
    |some w =>
     simp at hs;obtain ⟨rfl,rfl,rfl⟩:=hs;obtain ⟨j,c,en,p1,p2,p3,_,_,_,_⟩:=key_some hkr hkt E.w r2 hf;have hfk:=p2;rw[← hh,← hc];refine OpOk.pure hW (x:=if ok then .tuple #[c.val,.bool true] else c.val) ?_ (by have:=fin _ _ true p3;simpa using this);simp[execOp,ho,Instr.lookup,run_underlying hu,q3,MapKept.run_getObj_map r1,hck,hfk]
   ·simp at hs
  ·simp at hs
 ·rename_i kk e1 e2
  rw[e1] at rm;have rm2:VR _ _ _ _:=rm;generalize hq:a.eval m=q at rm2;cases rm2
  have hkr:=key_sound rk e2;have hck:=hkr.check (P:=P) hkt true 9998 E.w;have hfk:=key_none (X:=X) (E:=E) hkr hkt E.w .nil rfl;simp[mk1] at hs;obtain ⟨rfl,rfl,rfl⟩:=hs;rw[← hh,← hc];refine OpOk.pure hW (x:=if ok then .tuple #[z0,.bool false] else z0) ?_ (by have:=fin _ _ false rz;simpa using this);simp[execOp,ho,Instr.lookup,run_underlying hu,hq,hck,hfk,zeroValue,typeInfo,hi,hz0]
 ·simp at hs
theorem op_mupd(hW:WR X E)(hT:TR X E s a)(hh:E.h=s.hp)(hc:E.ct=s.ct){t kt:Nat}{m k y:Operand}{m' k' y':Opd}(ho:o.op=.mapUpdate t m k y∨o.op=.insert t m k y)
  (hm:okOpd m m'=true) (hk:okOpd k k'=true) (hy:okOpd y y'=true) (ht:mapT P t kt=true) (hs:step G s d (.mupd kt m' k' y')=some (v,h',c')):OpOk P X E o a.eval v h' c':=by
 have rm:=ev_sound hT hm;have rk:=ev_sound hT hk;have ry:=ev_sound hT hy;obtain ⟨kty,ety,hu,hkt⟩:=mapT_eq ht;simp only[step] at hs;split at hs
 ·rename_i b g kk w e1 e2 e3
  split at hs
  ·rename_i es clk hmap
   rw[← hh] at hmap;obtain ⟨hget,hcur⟩:=Heap.mapAt_eq hmap;obtain ⟨⟨ces,r1,r2⟩,_,_⟩:=hW.blk b _ hget;rw[e1] at rm;obtain ⟨_,_,q3⟩:=rm;have q3:=q3 hcur;rw[e3] at ry;have ry:A1R X E w (a.eval y):=ry;have hkr:=key_sound rk e2;have hck:=hkr.check (P:=P) hkt false 9998 E.w;split at hs
   ·rename_i w0 hf
    simp at hs;obtain ⟨rfl,rfl,rfl⟩:=hs;obtain ⟨j,c,en,p1,p2,p3,p4,_,_,p7⟩:=key_some hkr hkt E.w r2 hf;have hfk:=p2;obtain ⟨E',f1,f2,f3,f4,_⟩:=put_map hW (k':=clk) hmap (ces':=ces.modify j fun e=>{e with key:=a.eval k,val:=a.eval y}) (by simpa using p7 w _ ry);rw[← hc,← f2,← hh];refine OpOk.putU hW f3 ?_ f4;have p1':ces[j]?=some c:=by simpa using p1
    rcases ho with ho|ho<;>simp[execOp,ho,Instr.mapUpdate,run_underlying hu,q3,MapKept.run_getObj_map r1,hck,hfk,p1',Instr.keyThatStays,p4,MapKept.run_setObj_map _ r1,f1]
   ·rename_i hf
    simp at hs;obtain ⟨rfl,rfl,rfl⟩:=hs;have hfk:=key_none hkr hkt E.w r2 hf;obtain ⟨E',f1,f2,f3,f4,_⟩:=put_map hW (es':=es++[⟨kk,w,clk⟩]) (k':=clk+1) hmap (ces':=ces.push {key:=a.eval k,val:=a.eval y,born:=clk}) (by simpa using r2.append (.cons ⟨hkr.a1,ry,rfl⟩ .nil));rw[← hc,← f2,← hh];refine OpOk.putU hW f3 ?_ f4;rcases ho with ho|ho<;>simp[execOp,ho,Instr.mapUpdate,run_underlying hu,q3,MapKept.run_getObj_map r1,hck,hfk,MapKept.run_setObj_map _ r1,f1]
   ·simp at hs
  ·simp at hs
 ·simp at hs
theorem op_ment(hW:WR X E)(hT:TR X E s a)(hh:E.h=s.hp)(hc:E.ct=s.ct){t kt:Nat}{zero:List IV}{agg:Bool}{m k:Operand}{m' k':Opd}(ho:o.op=.mapEntry t m k)
  (hm:okOpd m m'=true) (hk:okOpd k k'=true) (ht:mapT P t kt=true) (hz:mapZ P t zero agg=true) (hs:step G s d (.ment kt zero agg m' k')=some (v,h',c')):OpOk P X E o a.eval v h' c':=by
 have rm:=ev_sound hT hm;have rk:=ev_sound hT hk;obtain ⟨kty,ety,hu,hkt⟩:=mapT_eq ht;obtain ⟨kty2,ety2,x0,i0,z0,hu2,rfl,rfl,hi,hz0,hcz⟩:=mapZ_eq hz;rw[hu] at hu2;simp at hu2;obtain ⟨rfl,rfl⟩:=hu2;have rz:A1R X E (.c (I x0)) z0:=constIV_sound hcz;simp only[step] at hs;split at hs
 ·rename_i b g kk e1 e2
  split at hs
  ·rename_i es clk hmap
   rw[← hh] at hmap;obtain ⟨hget,hcur⟩:=Heap.mapAt_eq hmap;obtain ⟨⟨ces,r1,r2⟩,_,_⟩:=hW.blk b _ hget;rw[e1] at rm;obtain ⟨_,_,q3⟩:=rm;have q3:=q3 hcur;have hkr:=key_sound rk e2;have hck:=hkr.check (P:=P) hkt false 9998 E.w;split at hs
   ·rename_i w0 en0 hf hfe
    simp at hs;obtain ⟨rfl,rfl,rfl⟩:=hs;obtain ⟨j,c,en,p1,p2,p3,p4,p5,p6,p7⟩:=key_some hkr hkt E.w r2 hf;rw[p5] at hfe;obtain rfl:=Option.some.inj hfe;have hfk:=p2;have p1':ces[j]?=some c:=by simpa using p1
    have hmod:(ces.modify j fun e=>{e with key:=a.eval k})=ces.modify j fun e=>{e with key:=a.eval k,val:=c.val}:=by
     apply Array.ext (by simp);intro i hi1 hi2;simp only[Array.getElem_modify];split
     ·rename_i hji
      subst hji;obtain ⟨hj,this⟩:=Array.getElem?_eq_some_iff.1 p1';rw[this]
     ·rfl
    obtain ⟨E',f1,f2,f3,f4,f5⟩:=put_map hW (k':=clk) hmap (ces':=ces.modify j fun e=>{e with key:=a.eval k,val:=c.val}) (by simpa using p7 w0 _ p3);rw[← hc,← f2,← hh];refine OpOk.put hW f3 (x:=.tuple #[c.val,.int .i64 c.born]) ?_ f4 ⟨[c.val,.int .i64 c.born],rfl,.cons (p3.ext f5) (.cons (by rw[p6];exact VR.int _ _) .nil)⟩;simp[execOp,ho,Instr.mapEntry,run_underlying hu,q3,MapKept.run_getObj_map r1,hck,hfk,p1',Instr.keyThatStays,p4,MapKept.run_setObj_map _ r1,f1,hmod,goInt]
   ·rename_i hf
    simp[mk1] at hs;obtain ⟨rfl,rfl,rfl⟩:=hs;have hfk:=key_none hkr hkt E.w r2 hf;obtain ⟨E',f1,f2,f3,f4,f5⟩:=put_map hW (es':=es++[⟨kk,.c (I x0),clk⟩]) (k':=clk+1) hmap (ces':=ces.push {key:=a.eval k,val:=z0,born:=clk}) (by simpa using r2.append (.cons ⟨hkr.a1,rz,rfl⟩ .nil));rw[← hc,← f2,← hh];refine OpOk.put hW f3 (x:=.tuple #[z0,.int .i64 clk]) ?_ f4 ⟨[z0,.int .i64 clk],rfl,.cons (rz.ext f5) (.cons (VR.int _ _) .nil)⟩;simp[execOp,ho,Instr.mapEntry,run_underlying hu,q3,MapKept.run_getObj_map r1,hck,hfk,MapKept.run_setObj_map _ r1,f1,zeroValue,typeInfo,hi,hz0,goInt]
   ·simp at hs
  ·simp at hs
 ·simp at hs
theorem op_ests(hW:WR X E)(hT:TR X E s a)(hh:E.h=s.hp)(hc:E.ct=s.ct){t:Nat}{m k y:Operand}{m' k' y':Opd}(ho:o.op=.entryStore t m k y)
  (hm:okOpd m m'=true) (hk:okOpd k k'=true) (hy:okOpd y y'=true) (hs:step G s d (.ests m' k' y')=some (v,h',c')):OpOk P X E o a.eval v h' c':=by
 have rm:=ev_sound hT hm;have rk:=ev_sound hT hk;have ry:=ev_sound hT hy;simp only[step] at hs;split at hs
 ·rename_i b g n w e1 e2 e3
  split at hs
  ·rename_i es clk hmap
   rw[← hh] at hmap;obtain ⟨hget,hcur⟩:=Heap.mapAt_eq hmap;obtain ⟨⟨ces,r1,r2⟩,_,_⟩:=hW.blk b _ hget;rw[e1] at rm;obtain ⟨_,_,q3⟩:=rm;have q3:=q3 hcur;rw[e3] at ry;have ry:A1R X E w (a.eval y):=ry;obtain ⟨kk,hn⟩:=nat_sound rk e2;split at hs
   ·rename_i es' hb
    simp at hs;obtain ⟨rfl,rfl,rfl⟩:=hs;obtain ⟨j,p1,p2⟩:=born_some r2 ry hb;obtain ⟨E',f1,f2,f3,f4,_⟩:=put_map hW (k':=clk) hmap (ces':=ces.modify j fun e=>{e with val:=a.eval y}) (by simpa using p2);rw[← hc,← f2,← hh];refine OpOk.putU hW f3 ?_ f4;have p1':ces.findIdx? (fun e=>(e.born:Int)==(n:Int))=some j:=by
     have h9:=List.findIdx?_toArray (p:=fun e:MapEntry=>(e.born:Int)==(n:Int)) (l:=ces.toList);rw[Array.toArray_toList] at h9;rw[h9];exact p1
    simp[execOp,ho,Instr.entryStore,q3,MapKept.run_getObj_map r1,hn,asInt,asIntOf,p1',MapKept.run_setObj_map _ r1,f1]
   ·simp at hs
  ·simp at hs
 ·simp at hs
end
section
variable {P:Program} {X:Cx} {E:Env} {s:St} {a:Act} {o:Oper} {d:Nat} {v:AV} {h':Heap} {c':Nat} {G:Nat→List IV}
theorem op_rng(hW:WR X E)(hT:TR X E s a)(hh:E.h=s.hp)(hc:E.ct=s.ct){t:Nat}{x:Operand}{x':Opd}(ho:o.op=.range t x)
  (hx:okOpd x x'=true) (ht:isStrT P t=true) (hs:step G s d (.rng x')=some (v,h',c')):OpOk P X E o a.eval v h' c':=by
 have rx:=ev_sound hT hx;have ht:=isStrT_eq ht;simp only[step] at hs;split at hs
 ·rename_i l e1
  obtain ⟨z,hy,hzl⟩:=str_sound rx e1;simp at hs;obtain ⟨rfl,rfl,rfl⟩:=hs;have hP:=Put.new X E d (.iter E.ct l 0) (E.w.alloc (.stringIter z 0)) rfl (by simp) (fun k hk=>by show (E.w.heap.push _)[k]?=_;rw[Array.getElem?_push,if_neg (by omega)]) rfl rfl rfl;have hB:BR X (E.new d (.iter E.ct l 0) (E.w.alloc (.stringIter z 0))) d (.iter E.ct l 0):=by
   refine ⟨z,?_,hzl⟩;show (E.w.heap.push _)[(if d=d then (E.w.heap.size,0) else E.m d).1]?=_;simp
  rw[← hh,← hc];refine OpOk.put hW hP (x:=.pointer (some ⟨E.w.heap.size,0,none⟩)) (by simp[execOp,ho,Instr.range,run_underlying ht,hy,newObj,Env.new,Sem.run]) hB ?_;exact ⟨rfl,Nat.lt_succ_self _,fun _=>by simp[Env.new]⟩
 ·simp at hs
theorem put_iter(hW:WR X E){b g pos pos':Nat}{l:List UInt8}{z:ByteArray}(hget:E.h.get b=some (.iter g l pos))(hz:z.data.toList=l) :
    ∃ E',E'.w={E.w with heap:=E.w.heap.setIfInBounds (E.m b).1 (.stringIter z pos')}∧E'.ct=E.ct∧Put X E E' b (.iter g l pos') (E.m b).1∧BR X E' b (.iter g l pos'):=by
  obtain ⟨⟨bs,hbs,_⟩,hgen,_⟩:=hW.blk b _ hget
  have hlt:=(Array.getElem?_eq_some_iff.1 hbs).1
  have hcur:E.h.cur b=some g:=Heap.cur_of_get hget
  have hP:Put X E {E with h:=E.h.set b (.iter g l pos'),w:={E.w with heap:=E.w.heap.setIfInBounds (E.m b).1 (.stringIter z pos')}} b (.iter g l pos') (E.m b).1 :=
    { h:=rfl,ct:=Nat.le_refl _,gen:=hgen,m:=fun _ _=>rfl,size:=by simp,heap:=fun c hc hn=>by simp[Ne.symm hn],c0:=.inr ⟨by simp[hget],rfl⟩,at_:=.inr ⟨by simp[hget],rfl⟩,
      old:=fun _=>⟨hcur,rfl,fun cc e fr h=>by rw[hbs] at h;simp at h⟩,os:=rfl,tape:=rfl,output:=rfl }
  exact ⟨{E with h:=E.h.set b (.iter g l pos'),w:={E.w with heap:=E.w.heap.setIfInBounds (E.m b).1 (.stringIter z pos')}},rfl,rfl,hP,⟨z,by simp[hlt],hz⟩⟩
theorem run_getObj_iter{w:World}{r pos:Nat}{z:ByteArray}(hb:w.heap[r]?=some (.stringIter z pos)):(getObj r).run P w=.ok (.stringIter z pos) w:=by
 simp[getObj,Sem.run,hb]
theorem run_setObj_iter{w:World}{r pos:Nat}{z:ByteArray}(o:Obj)(hb:w.heap[r]?=some (.stringIter z pos)):(setObj r o).run P w=.ok () {w with heap:=w.heap.setIfInBounds r o}:=by
 simp[setObj,Sem.run,hb]
theorem op_nxt(hW:WR X E)(hT:TR X E s a)(hh:E.h=s.hp)(hc:E.ct=s.ct){x:Operand}{x':Opd}(ho:o.op=.next x true)
  (hx:okOpd x x'=true) (hs:step G s d (.nxt x')=some (v,h',c')):OpOk P X E o a.eval v h' c':=by
 have rx:=ev_sound hT hx;simp only[step] at hs;split at hs
 ·rename_i b g e1
  split at hs
  ·rename_i g' l pos hget
   rw[← hh] at hget;split at hs
   ·rename_i hg
    subst hg;rw[e1] at rx;obtain ⟨_,_,q3⟩:=rx;obtain ⟨_,q3⟩:=q3 (Heap.cur_of_get hget);rw[Nat.zero_sub] at q3;obtain ⟨⟨z,hz,hzl⟩,_,_⟩:=hW.blk b _ hget;have hsz:z.size=l.length:=by
     rw[← hzl];show z.data.size=z.data.toList.length;exact Array.length_toList.symm
    have hu:utf8Next l pos=Utf8.decode z pos:=by
     unfold utf8Next;rw[← hzl]
    split at hs
    ·rename_i hlt
     simp at hs;obtain ⟨rfl,rfl,rfl⟩:=hs;obtain ⟨E',f1,f2,f3,f4⟩:=put_iter hW (pos':=pos+(utf8Next l pos).2) hget hzl;rw[← hc,← f2,← hh];refine OpOk.put hW f3 (x:=.tuple #[.bool true,.int .i64 pos,.int .i32 (utf8Next l pos).1]) ?_ f4 ⟨[.bool true,.int .i64 pos,.int .i32 (utf8Next l pos).1],rfl,.cons (VR.bool _) (.cons (VR.int _ _) (.cons (VR.int _ _) .nil))⟩;rw[f1,hu];simp[execOp,ho,Instr.next,q3,run_getObj_iter hz,hsz,hlt,run_setObj_iter _ hz,goInt]
    ·rename_i hlt
     simp at hs;obtain ⟨rfl,rfl,rfl⟩:=hs;rw[← hh,← hc];refine OpOk.pure hW (x:=.tuple #[.bool false]) ?_ ⟨[.bool false],rfl,.cons (VR.bool _) .nil⟩;simp[execOp,ho,Instr.next,q3,run_getObj_iter hz,hsz,hlt]
   ·simp at hs
  ·simp at hs
 ·simp at hs
end
def intAny(P:Program)(t:Nat):Bool:=match P.underlying t with|some (.int _)=>true|_=>false
theorem intAny_eq{P:Program}{t:Nat}(h:intAny P t=true):∃ k,intT P t k=true:=by
 unfold intAny at h;split at h
 ·rename_i k hk;exact ⟨k,by simp[intT,hk]⟩
 ·simp at h
def okK(P:Program)(o:Oper)(k:K):Bool :=
  match k,o.op with
  |.mov y,.move x=>okOpd x y
  |.mov y,.assign x=>okOpd x y
  |.pick a b c,.pick x y z=>okOpd x a&&okOpd y b&&okOpd z c
  |.fld off n agg y,.field t x f=>okOpd x y&&fldOk P t f off n agg
  |.idx len sz agg y j,.index t x i=>okOpd x y&&okOpd i j&&idxOk P t len sz agg
  |.idxS y j,.index t x i=>okOpd x y&&okOpd i j&&isStrT P t
  |.bin op y z,.binOp op' _ x w _=>decide (op'=op)&&okOpd x y&&okOpd w z
  |.eqB neg y z,.binOp op' t x w _=>decide (op'=if neg then .neq else .eql)&&okOpd x y&&okOpd w z&&isBoolT P t
  |.eqN neg ty y z,.binOp op' t x w _=>decide (op'=if neg then .neq else .eql)&&okOpd x y&&okOpd w z&&nilKind P t ty
  |.un op y,.unOp op' _ x=>decide (op'=op)&&okOpd x y
  |.cvI k y,.convert t u x=>okOpd x y&&intAny P t&&intT P u k
  |.cvIS y,.convert t u x=>okOpd x y&&intAny P t&&isStrT P u
  |.cvSS y,.convert t u x=>okOpd x y&&isStrT P t&&isStrT P u
  |.alloc cs,.alloc t=>zeroOk P t cs
  |.box _ y,.box _ x=>okOpd x y
  |.build zero places ps,.build t parts=>okParts parts.toList ps&&(buildOk P t zero places||buildAOk P t zero places)
  |.bsl sz len zero ps _,.buildSlice t len' parts=>len==len'&&okParts parts.toList ps&&bslT P t sz zero
  |.load n agg y,.load t x=>okOpd x y&&tyOk P t n agg
  |.store n y z,.store t x w=>okOpd x y&&okOpd w z&&(tyOk P t n true||tyOk P t n false)
  |.nilchk y,.nilCheck x=>okOpd x y
  |.fadr off y,.fieldAddr t x f=>okOpd x y&&fadrOk P t f off
  |.iadr sz y j,.indexAddr t x i=>okOpd x y&&okOpd i j&&slT P t sz
  |.iadrA len sz y j,.indexAddr t x i=>okOpd x y&&okOpd i j&&arrT P t len sz
  |.slcS y lo hi,.slice t x lo' hi' none=>okOpd x y&&okOpt lo' lo&&okOpt hi' hi&&isStrT P t
  |.slc sz y lo hi none,.slice t x lo' hi' none=>okOpd x y&&okOpt lo' lo&&okOpt hi' hi&&slT P t sz
  |.slc sz y lo (some hi) (some mx),.slice t x lo' (some hi') (some mx')=>okOpd x y&&okOpt lo' lo&&okOpd hi' hi&&okOpd mx' mx&&slT P t sz
  |.mksl sz bytes zero y z,.makeSlice t x w=>okOpd x y&&okOpd w z&&mkslT P t sz bytes zero
  |.mkfn f l,.makeFunc (.func f') first caps=>f==f'&&first.toList.isEmpty&&okOpds caps.toList l
  |.len ty y,.call {callee:=.builtin .len,args:=⟨[x]⟩,argTypes:=⟨[t]⟩}=>okOpd x y&&lenT P t ty
  |.mx l,.call {callee:=.builtin .max,args:=args,argTypes:=_}=>okOpds args.toList l
  |.mn l,.call {callee:=.builtin .min,args:=args,argTypes:=_}=>okOpds args.toList l
  |.app sz bytes str y z,.call {callee:=.builtin .append,args:=⟨[x,w]⟩,argTypes:=⟨[t,tx]⟩}=>okOpd x y&&okOpd w z&&appT P t sz bytes&&srcT P tx str
  |.appZ sz bytes zero y z,.call {callee:=.builtin .append,args:=⟨[x,w]⟩,argTypes:=⟨[t,tx]⟩}=>okOpd x y&&okOpd w z&&appZT P t tx sz bytes zero
  |.ext y n,.extract x n'=>n==n'&&okOpd x y
  |.call f l _,.call {callee:=.value (.func f'),args:=args,argTypes:=_}=>f==f'&&okOpds args.toList l
  |.callv y l _,.call {callee:=.value x,args:=args,argTypes:=_}=>okOpd x y&&okOpds args.toList l
  |.cvBS y,.convert t u x=>okOpd x y&&isBytesT P t&&isStrT P u
  |.mkmap,.makeMap _ none=>true
  |.lkp kt zero agg ok m k,.lookup t x y ok'=>ok'==ok&&okOpd x m&&okOpd y k&&mapT P t kt&&mapZ P t zero agg
  |.mupd kt m k v,.mapUpdate t x y z=>okOpd x m&&okOpd y k&&okOpd z v&&mapT P t kt
  |.ment kt zero agg m k,.mapEntry t x y=>okOpd x m&&okOpd y k&&mapT P t kt&&mapZ P t zero agg
  |.ests m k v,.entryStore _ x y z=>okOpd x m&&okOpd y k&&okOpd z v
  |.eqv neg ks y z,.binOp op' t x w _=>decide (op'=if neg then .neq else .eql)&&okOpd x y&&okOpd w z&&eqvOk P t ks
  |.cvSB y,.convert t u x=>okOpd x y&&isStrT P t&&isBytesT P u
  |.clr sz zero y,.call {callee:=.builtin .clear,args:=⟨[x]⟩,argTypes:=⟨[t]⟩}=>okOpd x y&&bslT P t sz zero
  |.rng y,.range t x=>okOpd x y&&isStrT P t
  |.nxt y,.next x true=>okOpd x y
  |.mupd kt m k v,.insert t x y z=>okOpd x m&&okOpd y k&&okOpd z v&&mapT P t kt
  |_,_=>false
def K.isCall:K→Bool
  |.call ..|.callv ..=>true
  |_=>false
section
variable {P:Program} {X:Cx} {E:Env} {s:St} {a:Act} {o:Oper} {G:Nat→List IV} {d:Nat} {v:AV} {h':Heap} {c':Nat} {k:K}
theorem op_sound(hW:WR X E)(hG:GOk X G)(hT:TR X E s a)(hh:E.h=s.hp)(hc:E.ct=s.ct)(hk:okK P o k=true)(hn:k.isCall=false)
  (hs:step G s d k=some (v,h',c')):OpOk P X E o a.eval v h' c':=by
 unfold okK at hk;split at hk;case h_1 ho=>exact op_mov hW hT hh hc (.inl ho) hk hs
 case h_2 ho=>exact op_mov hW hT hh hc (.inr ho) hk hs
 case h_3 ho=>simp at hk;exact op_pick hW hT hh hc ho hk.1.1 hk.1.2 hk.2 hs
 case h_4 ho=>simp at hk;exact op_fld hW hT hh hc ho hk.1 hk.2 hs
 case h_5 ho=>simp at hk;exact op_idx hW hT hh hc ho hk.1.1 hk.1.2 hk.2 hs
 case h_6 ho=>simp at hk;exact op_idxS hW hT hh hc ho hk.1.1 hk.1.2 hk.2 hs
 case h_7 ho=>simp at hk;obtain ⟨⟨rfl,h1⟩,h2⟩:=hk;exact op_bin hW hT hh hc ho h1 h2 hs
 case h_8 ho=>simp at hk;obtain ⟨⟨⟨rfl,h1⟩,h2⟩,h3⟩:=hk;exact op_eqB hW hT hh hc ho h1 h2 h3 hs
 case h_9 ho=>simp at hk;obtain ⟨⟨⟨rfl,h1⟩,h2⟩,h3⟩:=hk;exact op_eqN hW hT hh hc ho h1 h2 h3 hs
 case h_10 ho=>simp at hk;obtain ⟨rfl,h1⟩:=hk;exact op_un hW hT hh hc ho h1 hs
 case h_11 ho=>simp at hk;obtain ⟨⟨h1,h2⟩,h3⟩:=hk;obtain ⟨k',hk'⟩:=intAny_eq h2;exact op_cvI hW hT hh hc ho h1 hk' h3 hs
 case h_12 ho=>simp at hk;obtain ⟨⟨h1,h2⟩,h3⟩:=hk;obtain ⟨k',hk'⟩:=intAny_eq h2;exact op_cvIS hW hT hh hc ho h1 hk' h3 hs
 case h_13 ho=>simp at hk;exact op_cvSS hW hT hh hc ho hk.1.1 hk.1.2 hk.2 hs
 case h_14 ho=>exact op_alloc hW hh hc ho hk hs
 case h_15 ho=>exact op_box hW hT hh hc ho hk hs
 case h_16 ho =>
  simp at hk;obtain ⟨h1,h2|h2⟩:=hk
  ·exact op_build hW hT hh hc ho h1 h2 hs
  ·exact op_buildA hW hT hh hc ho h1 h2 hs
 case h_17 ho=>simp at hk;obtain ⟨⟨rfl,h1⟩,h2⟩:=hk;exact op_bsl hW hT hh hc ho h1 h2 hs
 case h_18 ho=>simp at hk;exact op_load hW hG hT hh hc ho hk.1 hk.2 hs
 case h_19 ho=>simp at hk;obtain ⟨⟨h1,h2⟩,h3⟩:=hk;rcases h3 with h3|h3<;>exact op_store hW hT hh hc ho h1 h2 h3 hs
 case h_20 ho=>exact op_nilchk hW hT hh hc ho hk hs
 case h_21 ho=>simp at hk;exact op_fadr hW hT hh hc ho hk.1 hk.2 hs
 case h_22 ho=>simp at hk;exact op_iadr hW hT hh hc ho hk.1.1 hk.1.2 hk.2 hs
 case h_23 ho=>simp at hk;exact op_iadrA hW hT hh hc ho hk.1.1 hk.1.2 hk.2 hs
 case h_24 ho=>simp at hk;exact op_slcS hW hT hh hc ho hk.1.1.1 hk.1.1.2 hk.1.2 hk.2 hs
 case h_25 ho=>simp at hk;exact op_slc hW hT hh hc ho hk.1.1.1 hk.1.1.2 hk.1.2 hk.2 hs
 case h_26 ho=>simp at hk;exact op_slc0 hW hT hh hc ho hk.1.1.1.1 hk.1.1.1.2 hk.1.1.2 hk.1.2 hk.2 hs
 case h_27 ho=>simp at hk;exact op_mksl hW hT hh hc ho hk.1.1 hk.1.2 hk.2 hs
 case h_28 first caps ho =>
  simp at hk;obtain ⟨⟨rfl,h1⟩,h2⟩:=hk;subst h1;exact op_mkfn hW hT hh hc ho h2 hs
 case h_29 ho=>simp at hk;exact op_len hW hT hh hc ho hk.1 hk.2 hs
 case h_30 ho=>exact op_mx hW hT hh hc ho hk hs
 case h_31 ho=>exact op_mn hW hT hh hc ho hk hs
 case h_32 ho=>simp at hk;exact op_app hW hT hh hc ho hk.1.1.1 hk.1.1.2 hk.1.2 hk.2 hs
 case h_33 ho=>simp at hk;exact op_appZ hW hT hh hc ho hk.1.1 hk.1.2 hk.2 hs
 case h_34 ho=>simp at hk;obtain ⟨rfl,h1⟩:=hk;exact op_ext hW hT hh hc ho h1 hs
 case h_35=>simp[K.isCall] at hn
 case h_36=>simp[K.isCall] at hn
 case h_37 ho=>simp at hk;exact op_cvBS hW hT hh hc ho hk.1.1 hk.1.2 hk.2 hs
 case h_38 ho=>exact op_mkmap hW hh hc ho hs
 case h_39 ho=>simp at hk;obtain ⟨⟨⟨⟨rfl,h1⟩,h2⟩,h3⟩,h4⟩:=hk;exact op_lkp hW hT hh hc ho h1 h2 h3 h4 hs
 case h_40 ho=>simp at hk;exact op_mupd hW hT hh hc (.inl ho) hk.1.1.1 hk.1.1.2 hk.1.2 hk.2 hs
 case h_41 ho=>simp at hk;exact op_ment hW hT hh hc ho hk.1.1.1 hk.1.1.2 hk.1.2 hk.2 hs
 case h_42 ho=>simp at hk;exact op_ests hW hT hh hc ho hk.1.1 hk.1.2 hk.2 hs
 case h_43 ho=>simp at hk;obtain ⟨⟨⟨rfl,h1⟩,h2⟩,h3⟩:=hk;exact op_eqv hW hT hh hc ho h1 h2 h3 hs
 case h_44 ho=>simp at hk;exact op_cvSB hW hT hh hc ho hk.1.1 hk.1.2 hk.2 hs
 case h_45 ho=>simp at hk;exact op_clr hW hT hh hc ho hk.1 hk.2 hs
 case h_46 ho=>simp at hk;exact op_rng hW hT hh hc ho hk.1 hk.2 hs
 case h_47 ho=>exact op_nxt hW hT hh hc ho hk hs
 case h_48 ho=>simp at hk;exact op_mupd hW hT hh hc (.inr ho) hk.1.1.1 hk.1.1.2 hk.1.2 hk.2 hs
 case h_49=>simp at hk
def CallOk(P:Program)(f:Nat)(args:Array Value)(w:World)(post:Value→World→Prop):Prop :=
  ((callFunc f args).run P w=.ok (.enter f args) w∧Calls P f args w fun e w'=>∃ v,e=.returned v∧post v w')∨(∃ v w',(callFunc f args).run P w=.ok (.value v) w'∧post v w')
theorem CallOk.mono{f:Nat}{args:Array Value}{w:World}{post post':Value→World→Prop}(h:CallOk P f args w post)(g:∀ v w',post v w'→post' v w'):CallOk P f args w post':=by
 rcases h with ⟨h1,h2⟩|⟨v,w',h1,h2⟩
 ·exact .inl ⟨h1,h2.mono fun e w' ⟨v,he,hp⟩=>⟨v,he,g v w' hp⟩⟩
 ·exact .inr ⟨v,w',h1,g v w' h2⟩
def retV:List Value→Value
  |[a]=>a
  |l=>.tuple l.toArray
def RunOk(P:Program)(G:Nat→List IV)(R:Run):Prop :=
  ∀ f args bs rs h,R f args bs=some (rs,h)→∀ (X:Cx) (ids:List Nat) (E0:Env) (lent:Bool) (cargs:List Value),let X':=calleeX X E0 ids lent;let E:=calleeE E0 ids bs
    WR X' E→GOk X' G→All2 (A1R X' E) args cargs →
    CallOk P f cargs.toArray E.w fun v w'=>∃ E',E'.w=w'∧E'.h=h∧WR X' E'∧Ext X' E E'∧∃ vs,All2 (A1R X' E') rs vs∧v=retV vs
theorem resV_sound{rs:List A1}{vs:List Value}(h:All2 (A1R X E) rs vs):AVR X E (resV rs) (retV vs):=by
 cases h with
 |nil=>exact ⟨[],rfl,.nil⟩
 |cons h1 h2 =>
  cases h2 with
  |nil=>exact h1
  |cons h2 h3=>exact ⟨_,rfl,.cons h1 (.cons h2 h3)⟩
theorem doCall_sound{R:Run}(hR:RunOk P G R)(hW:WR X E)(hG:GOk X G)(hh:E.h=s.hp)(hc:E.ct=s.ct){f:Nat}{args:List A1}{how:How}{cargs:List Value}(ha:All2 (A1R X E) args cargs)
  (hs:doCall R s f args how=some (v,h',c')) :
  CallOk P f cargs.toArray E.w fun x w'=>∃ E2,E2.w=w'∧E2.h=h'∧E2.ct=c'∧WR X E2∧Ext X E E2∧E.w.heap.size≤E2.w.heap.size∧AVR X E2 v x:=by
 unfold doCall at hs;rw[← hh,← hc] at hs;have aux:∀ (ids:List Nat) (lent:Bool) (bs:List Blk) {l:List A1} {m:List Value} {l':List A1},All2 (A1R X E) l m→traverse (to1 true E.h ids) l=some l'→(∀ x∈l,∀ z∈x.cells,lentC ids z=true→lent=true) →
   All2 (A1R (calleeX X E ids lent) (calleeE E ids bs)) l' m:=by
  intro ids lent bs l m l' h;induction h generalizing l' with
  |nil=>intro e _;simp[traverse] at e;subst e;exact .nil
  |cons h _ ih =>
   intro e hx;simp only[traverse] at e;split at e
   ·simp at e
   ·rename_i b hb
    split at e
    ·simp at e
    ·rename_i bs' hbs
     simp at e;subst e;exact .cons (to1_sound hW h hb (hx _ (.head _))) (ih hbs fun x hx'=>hx x (.tail _ hx'))
 have lent_of:∀ (ids:List Nat) (x:A1),x∈args→∀ z∈x.cells,lentC ids z=true→(args.any fun a=>a.cells.any (lentC ids))=true:=fun ids x hx z hz hl =>
  List.any_eq_true.2 ⟨x,hx,List.any_eq_true.2 ⟨z,hz,hl⟩⟩
 split at hs
 ·split at hs
  ·rename_i as has
   split at hs
   ·rename_i rs h hrun
    split at hs
    ·rename_i vs hvs
     simp at hs;obtain ⟨rfl,rfl,rfl⟩:=hs;generalize hl:(args.any fun a=>a.cells.any (lentC []))=lent at hvs;have ha':=aux [] lent [] ha has (fun x hx z hz hq=>by rw[← hl];exact lent_of [] x hx z hz hq);refine (hR f as [] rs h hrun X [] E lent cargs (callee_wr hW rfl rfl) (callee_gok hW hG) ha').mono ?_;rintro x w' ⟨E',rfl,rfl,hW',hE',ws,hr,rfl⟩;let E2:Env:={h:=E.h,m:=E.m,ct:=E.ct,w:=E'.w};have hS:Same E E2:=⟨rfl,rfl,rfl,hW'.size,fun k hk=>hW'.still k hk (by rintro ⟨b,i,b',_,h2,_⟩;simp at h2),hW'.os,hW'.tape,hW'.output⟩;have hW2:=hS.wr hW;have hlive:∀ c,E2.live c∨(X.H c).isSome=true→c<E.w.heap.size:=by
      rintro c (⟨b,h1,h2⟩|hH)
      ·obtain ⟨y,hy⟩:=Option.isSome_iff_exists.1 h1
       have:=hW.lt (b:=b) hy
       simp only[E2] at h2;omega
      ·obtain ⟨o,ho⟩:=Option.isSome_iff_exists.1 hH
       exact (Array.getElem?_eq_some_iff.1 (hW.hid c o ho).1).1
     have hB:Back X (calleeX X E [] lent) E' E2 [] lent:=by
      refine ⟨rfl,fun k c g h=>by simp[backAt] at h,fun c h=>?_,fun hlf t c h=>?_,fun b y _ hy=>?_⟩
      ·rcases h with ⟨h1,h2⟩|⟨h1,_⟩
       ·have h1:E.w.heap.size≤c:=h1
        exact .inl ⟨Nat.le_trans hW.size h1,fun hl=>by have:=hlive c hl;omega⟩
       ·exact absurd rfl h1
      ·rcases h with ⟨h1,h2⟩|⟨h1,h2,h3,h4⟩
       ·have h1:E.w.heap.size≤c:=h1
        exact .inl ⟨Nat.le_trans hW.size h1,fun hl=>by have:=hlive c hl;omega⟩
       ·rcases h4 with h4|h4
        ·rw[hlf] at h4;simp at h4
        ·rcases h4 with h5|h5
         ·exact .inl ⟨h5.1,fun hl=>h5.2 hl⟩
         ·exact .inr ⟨h1,h5.2⟩
      ·rcases (hW'.blk b y hy).2.2 with h1|⟨i,b',_,h2,_⟩
       ·have h1:E.w.heap.size≤(E'.m b).1:=h1
        exact .inl ⟨Nat.le_trans hW.size h1,fun hl=>by have:=hlive _ hl;omega⟩
       ·simp at h2
     refine ⟨E2,rfl,rfl,rfl,hW2,hS.ext,hW'.size,resV_sound (hr.of_traverse (fun _ _ _ r e=>back1_sound hW' hB r e) hvs)⟩
    ·simp at hs
   ·simp at hs
  ·simp at hs
 ·simp only at hs
  generalize hids:(if how.deep=true then firsts (refDeep E.h 2 (refsOf how.give args)) else refsOf how.give args)=ids at hs;split at hs
  ·rename_i as bs has hbs
   split at hs
   ·rename_i rs h hrun
    split at hs
    ·rename_i hchk
     split at hs
     ·rename_i vs hp hvs hhp
      simp at hs;obtain ⟨rfl,rfl,rfl⟩:=hs;simp only[Bool.and_eq_true] at hchk;obtain ⟨⟨⟨hn,had⟩,hn1⟩,hn2⟩:=hchk;generalize hl:(args.any fun a=>a.cells.any (lentC ids))=lent at hvs hhp;have ha':=aux ids lent bs ha has (fun x hx z hz hq=>by rw[← hl];exact lent_of ids x hx z hz hq);refine (hR f as bs rs h hrun X ids E lent cargs (callee_wr hW hn hbs) (callee_gok hW hG) ha').mono ?_;rintro x w' ⟨E',rfl,rfl,hW',hE',ws,hr,rfl⟩;obtain ⟨E2,f1,f2,f3,f4,f5,f6,f7⟩:=ret_wr hW hn hbs hW' hE' had hn1 hn2 hhp;exact ⟨E2,f1,f2,f3,f4,f5,f6,resV_sound (hr.of_traverse (fun _ _ _ r e=>back1_sound hW' f7 r e) hvs)⟩
     ·simp at hs
    ·simp at hs
   ·simp at hs
  ·simp at hs
def OpGo(P:Program)(X:Cx)(E:Env)(o:Oper)(a:Act)(v:AV)(h':Heap)(ct':Nat):Prop :=
  ∀ (next:Act→World→Prop) (Q:Exit→Act→World→Prop),
    (∀ E' x,E'.h=h'→E'.ct=ct'→WR X E'→Ext X E E'→E.w.heap.size≤E'.w.heap.size→AVR X E' v x→next (a.put o.dst x) E'.w)→o.wp P a E.w next Q
theorem OpOk.go(h:OpOk P X E o a.eval v h' c'):OpGo P X E o a v h' c':=by
 intro next Q hn;obtain ⟨E',nx,hr,h1,h2,h3,h4,h5,h6⟩:=h;unfold Oper.wp;rw[hr];rcases h6 with ⟨x,rfl,hx⟩|⟨rfl,rfl⟩
 ·exact hn E' x h1 h2 h3 h4 h5 hx
 ·exact hn E' undef h1 h2 h3 h4 h5 trivial
theorem evals_sound(hT:TR X E s a):∀ {l:List Operand} {m:List Opd} {as:List A1},okOpds l m=true→evals s m=some as→All2 (A1R X E) as (l.map a.eval)
 |[],[],as,_,e=>by simp[evals,traverse] at e;subst e;exact .nil
 |x::l,y::m,as,h,e=>by
  simp[okOpds] at h
  simp only[evals,traverse] at e
  split at e
  ·simp at e
  ·rename_i b hb
   split at e
   ·simp at e
   ·rename_i bs hbs
    simp at e
    subst e
    refine .cons ?_ (evals_sound hT h.2 hbs)
    have r:=ev_sound hT h.1
    cases hq:ev s y with
    |v w =>
     rw[hq] at r
     simp[hq,AV.one] at hb
     subst hb
     exact r
    |und=>simp[hq,AV.one] at hb
    |skp=>simp[hq,AV.one] at hb
    |tup l=>simp[hq,AV.one] at hb
 |[],_::_,_,h,_=>by simp[okOpds] at h
 |_::_,[],_,h,_=>by simp[okOpds] at h
theorem call_go{f:Nat}{args:Array Operand}{ts:Array TypeId}{fx:Operand}{caps:Array Value}{cargs:List Value}
  (ho:o.op=.call {callee:=.value fx,args:=args,argTypes:=ts}) (hf:a.eval fx=.func (.func f) #[] caps) (hq:cargs.toArray=args.map a.eval++caps)
  (h:CallOk P f cargs.toArray E.w fun x w'=>∃ E2,E2.w=w'∧E2.h=h'∧E2.ct=c'∧WR X E2∧Ext X E E2∧E.w.heap.size≤E2.w.heap.size∧AVR X E2 v x):OpGo P X E o a v h' c':=by
 intro next Q hn;have hrun:(execOp a.eval o).run P E.w=(callFunc f cargs.toArray).run P E.w:=by
  rw[hq];simp[execOp,ho,resolve,Deferred.ofValue,hf,invoke]
 unfold Oper.wp;rw[hrun];rcases h with ⟨h1,h2⟩|⟨x,w',h1,E2,rfl,g1,g2,g3,g4,g5,g6⟩
 ·rw[h1]
  refine h2.mono ?_;rintro e w' ⟨x,rfl,E2,rfl,g1,g2,g3,g4,g5,g6⟩;exact hn E2 x g1 g2 g3 g4 g5 g6
 ·rw[h1]
  exact hn E2 x g1 g2 g3 g4 g5 g6
theorem opK_sound{R:Run}(hR:RunOk P G R)(hW:WR X E)(hG:GOk X G)(hT:TR X E s a)(hh:E.h=s.hp)(hc:E.ct=s.ct)(hk:okK P o k=true)
  (hs:opK G R s d k=some (v,h',c')):OpGo P X E o a v h' c':=by
 cases hcall:k.isCall with
 |false =>
  refine (op_sound hW hG hT hh hc hk hcall (G:=G) (d:=d) ?_).go;cases k<;>first|exact hs|simp[K.isCall] at hcall
 |true =>
  cases k<;>simp[K.isCall] at hcall
  case call f l how =>
   simp only[opK] at hs;split at hs
   ·rename_i as has
    unfold okK at hk;split at hk<;>simp_all;rename_i f' args ts ho;obtain ⟨rfl,h1⟩:=hk;have hae:=evals_sound hT h1 has;have hcs:=doCall_sound hR hW hG hh hc hae hs;exact call_go ho rfl (by apply Array.ext';simp) hcs
   ·simp at hs
  case callv y l how =>
   simp only[opK] at hs;have hk2:∃ x args ts,o.op=.call {callee:=.value x,args:=args,argTypes:=ts}∧okOpd x y=true∧okOpds args.toList l=true:=by
    unfold okK at hk;split at hk<;>simp_all;exact ⟨_,_,⟨rfl,rfl⟩,hk⟩
   obtain ⟨x,args,ts,ho,h1,h2⟩:=hk2;have rx:=ev_sound hT h1;split at hs
   ·rename_i as f caps has hx
    rw[hx] at rx;have rx2:VR _ _ _ _:=rx;have hae:=evals_sound hT h2 has;generalize hq:a.eval x=q at rx2;cases rx2 with
    |clo _ _ ws hl hr =>
     have hcaps:All2 (A1R X E) (caps.map fun v=>.c (I v)) ws:=by
      have:All2 (VR (okc X E) E.w.heap) caps ws:=All2.of_get hl hr;exact this.map _ fun _ _ r=>r
     have hcs:=doCall_sound hR hW hG hh hc (hae.append hcaps) hs;exact call_go ho hq (by apply Array.ext';simp) hcs
   ·rename_i as f caps has hx
    rw[hx] at rx;have hae:=evals_sound hT h2 has;obtain ⟨ws,hq,hr⟩:=rx;have hcaps:All2 (A1R X E) (caps.map fun v=>.c (.r v)) ws:=hr.map _ fun _ _ r=>r;have hcs:=doCall_sound hR hW hG hh hc (hae.append hcaps) hs;exact call_go ho hq (by apply Array.ext';simp) hcs
   ·simp at hs
end
structure Rel(X:Cx)(E:Env)(s:St)(a:Act):Prop where
  h:E.h=s.hp
  ct:E.ct=s.ct
  wr:WR X E
  tr:TR X E s a
def okGuard(ops:Array Oper):Option (Nat×Bool)→Option (Nat×Bool)→Bool
  |none,none=>true
  |some (j,b),some (t,c)=>b==c&&(ops[j]?).bind (·.dst)==some t
  |_,_=>false
def okIns(P:Program)(ops:Array Oper)(i:Nat):Ins→Bool
  |.op d g k=>match ops[i]? with
    |some o=>o.dst==d&&okGuard ops o.guard g&&okK P o k
    |none=>false
  |_=>false
def okInsL(P:Program)(ops:Array Oper):List Ins→Nat→Bool
  |[],i=>i==ops.size
  |.kill _ _::l,i=>okInsL P ops l i
  |.frz _::l,i=>okInsL P ops l i
  |.op d g k::l,i=>okIns P ops i (.op d g k)&&okInsL P ops l (i+1)
section
variable {P:Program} {X:Cx} {E E':Env} {s s':St} {a:Act} {G:Nat→List IV} {R:Run}
theorem TR.ext(h:TR X E s a)(e:Ext X E E')(ht:s'.tm=s.tm):TR X E' s' a :=
 ⟨h.defers,by rw[ht];exact h.size,fun i v hv=>(h.at_ i v (by rw[← ht];exact hv)).ext e⟩
theorem TR.put(h:TR X E s a)(dst:Option Nat){v:AV}{x:Value}(hv:AVR X E v x):TR X E (s.put dst v) (a.put dst x):=by
 cases dst with
 |none=>exact h
 |some d =>
  refine ⟨h.defers,by simp[St.put,Act.put,h.size],fun i w hw=>?_⟩;simp only[St.put] at hw;by_cases e:i=d
  ·subst e
   have hlt:i<s.tm.length:=by
    have:=(List.getElem?_eq_some_iff.1 hw).1;simpa using this
   rw[List.getElem?_set_self hlt] at hw;simp at hw;subst hw;have:i<a.tmps.size:=by rw[h.size];exact hlt
   simp[Act.put,Array.getD,this,hv]
  ·rw[List.getElem?_set_ne (Ne.symm e)] at hw
   have:=h.at_ i w hw
   have hne:d≠i:=Ne.symm e;have:(a.put (some d) x).tmps.getD i undef=a.tmps.getD i undef:=by
    simp[Act.put,Array.getD_eq_getD_getElem?,Array.getElem?_setIfInBounds_ne hne]
   rw[this];assumption
theorem want_sound(h:TR X E s a){ops:Array Oper}{o:Oper}{g:Option (Nat×Bool)}(hg:okGuard ops o.guard g=true){b:Bool}(hw:want s g=some b):Region.wanted o (yielded ops a.tmps)=b:=by
 unfold okGuard at hg;split at hg
 ·rename_i e
  simp[want] at hw;subst hw;simp[Region.wanted,e]
 ·rename_i j c t c' e
  simp at hg;obtain ⟨rfl,hd⟩:=hg;simp only[want] at hw;have key:∀ v,s.get t=v→v≠.und→AVR X E v (a.tmps.getD t undef):=fun v hv hne=>by
   unfold St.get at hv;rw[List.getD_eq_getElem?_getD] at hv;cases hq:s.tm[t]? with
   |none=>rw[hq] at hv;simp at hv;exact absurd hv.symm hne
   |some w=>rw[hq] at hv;simp at hv;subst hv;exact h.at_ t w hq
  split at hw
  ·rename_i c0 hc0
   simp at hw;subst hw;have r:=key _ hc0 (by simp);have r2:VR _ _ _ _:=r;generalize hq:a.tmps.getD t undef=q at r2;cases r2
   have hlt:t<a.tmps.size:=by
    rcases Nat.lt_or_ge t a.tmps.size with hlt|hge
    ·exact hlt
    ·simp[Array.getD,Nat.not_lt.2 hge,undef] at hq
   have hq2:a.tmps[t]?=some (.bool c0):=by
    simp[Array.getD,hlt] at hq;simp[hlt,hq]
   simp[Region.wanted,e,yielded,hd,hq2]
  ·rename_i hc0
   simp at hw;subst hw;have r:a.tmps.getD t undef=undef:=key _ hc0 (by simp);simp only[Region.wanted,e,yielded,hd,Option.bind_some];have hq2:∀ b,a.tmps[t]?≠some (.bool b):=fun b hb=>by
    simp[Array.getD_eq_getD_getElem?,hb,undef] at r
   cases hq:a.tmps[t]? with
   |none=>rfl
   |some w =>
    cases w with
    |bool b=>exact absurd hq (hq2 b)
    |_=>rfl
  ·simp at hw
 ·simp at hg
theorem put_ne{d:Option Nat}{x:Value}{t:Nat}(h:d≠some t):(a.put d x).tmps.getD t undef=a.tmps.getD t undef:=by
 cases d with
 |none=>rfl
 |some d =>
  have hne:d≠t:=fun e=>h (by rw[e]);simp[Act.put,Array.getD_eq_getD_getElem?,Array.getElem?_setIfInBounds_ne hne]
theorem ins_op(hR:RunOk P G R)(hG:GOk X G)(hr:Rel X E s a){ops:Array Oper}{i:Nat}{d:Option Nat}{g:Option (Nat×Bool)}{k:K}(hk:okIns P ops i (.op d g k)=true)
  (hs:insI G R s (.op d g k)=some s') {next:Act→World→Prop} {Q:Exit→Act→World→Prop}
  (hn:∀ E' a',Rel X E' s' a'→Ext X E E'→E.w.heap.size≤E'.w.heap.size→(∀ t,d≠some t→a'.tmps.getD t undef=a.tmps.getD t undef)→next a' E'.w):wpOp P ops Q i next a E.w:=by
 unfold okIns at hk;split at hk
 ·rename_i d' g' k' heq
  injection heq with h1 h2 h3;subst h1;subst h2;subst h3;unfold wpOp;split at hk
  ·rename_i o ho
   simp at hk;obtain ⟨⟨rfl,hg⟩,hk⟩:=hk;simp only[insI] at hs;split at hs
   ·rename_i r hV
    simp at hs;subst hs;obtain ⟨v,h,c⟩:=r;simp only[insV] at hV;split at hV
    ·rename_i hw
     have hwant:=want_sound hr.tr hg hw;simp only[ho,hwant,if_true];refine .inl (opK_sound hR hr.wr hG hr.tr hr.h hr.ct hk hV next Q ?_);intro E' x e1 e2 e3 e4 e5 e6;refine hn E' _ ⟨?_,?_,e3,TR.put (s:={s with hp:=h,ct:=c}) (hr.tr.ext e4 rfl) _ e6⟩ e4 e5 fun t ht=>put_ne ht
     ·cases o.dst<;>simpa[St.put,St.with] using e1
     ·cases o.dst<;>simpa[St.put,St.with] using e2
    ·rename_i hw
     have hwant:=want_sound hr.tr hg hw;simp at hV;obtain ⟨rfl,rfl,rfl⟩:=hV;simp only[ho,hwant,Bool.false_eq_true,if_false];refine hn E _ ⟨?_,?_,hr.wr,TR.put hr.tr _ rfl⟩ (Ext.refl X E) (Nat.le_refl _) fun t ht=>put_ne ht
     ·cases o.dst<;>simpa[St.put,St.with] using hr.h
     ·cases o.dst<;>simpa[St.put,St.with] using hr.ct
    ·simp at hV
   ·simp at hs
  ·simp at hk
 ·rename_i hne
  exact (hne _ _ _ rfl).elim
theorem kill_tm(h:TR X E s a):∀ (ts:List Nat) (l:List AV),l.length=s.tm.length→(∀ (i:Nat) (v:AV),l[i]?=some v→AVR X E v (a.tmps.getD i undef)) →
  (ts.foldl (fun l t=>l.set t .und) l).length=s.tm.length∧∀ (i:Nat) (v:AV),(ts.foldl (fun l t=>l.set t .und) l)[i]?=some v→AVR X E v (a.tmps.getD i undef)
 |[],l,h1,h2=>⟨h1,h2⟩
 |t::ts,l,h1,h2=>kill_tm h ts (l.set t .und) (by simpa using h1) fun i v hv=>by
   by_cases e:i=t
   ·subst e
    have hlt:i<l.length:=by have:=(List.getElem?_eq_some_iff.1 hv).1;simpa using this
    rw[List.getElem?_set_self hlt] at hv
    simp at hv
    subst hv
    trivial
   ·rw[List.getElem?_set_ne (Ne.symm e)] at hv
    exact h2 i v hv
theorem ins_ghost(hr:Rel X E s a){x:Ins}(hx:x.isOp=false)(hs:insI G R s x=some s'):∃ E',E'.w=E.w∧Rel X E' s' a∧Ext X E E':=by
 cases x with
 |op=>simp[Ins.isOp] at hx
 |kill ts bs =>
  simp[insI] at hs;subst hs;have hE:=Drop.ext X E bs;obtain ⟨h1,h2⟩:=kill_tm (hr.tr.ext (s':=s) hE rfl) ts s.tm rfl (hr.tr.ext (s':=s) hE rfl).at_;exact ⟨{E with h:=delAll E.h bs},rfl,⟨by simp[hr.h],hr.ct,Drop.wr bs hr.wr,⟨hr.tr.defers,by rw[hr.tr.size];exact h1.symm,h2⟩⟩,hE⟩
 |frz t =>
  simp only[insI] at hs;split at hs
  ·rename_i a1 ha1
   generalize hbs:(refDeep s.hp 3 (a1.cells.flatMap (refC true))).filter (fun b=>decide (b<PB))=bs at hs;have hbPB:∀ b∈bs,b<PB:=fun b hb=>by
    rw[← hbs] at hb
    have:=(List.mem_filter.1 hb).2
    simpa using this
   have hE:=Drop.ext X E bs;have hW':=Drop.wr bs hr.wr;have hv:A1R X E a1 (a.tmps.getD t undef):=by
    unfold St.get at ha1;rw[List.getD_eq_getElem?_getD] at ha1;cases hq:s.tm[t]? with
    |none=>rw[hq] at ha1;simp at ha1
    |some w=>rw[hq] at ha1;simp at ha1;have:=hr.tr.at_ t w hq;rw[ha1] at this;exact this
   have hrd:∀ (x:AC) (v:Value) (iv:IV),CC X E x v→rd (fun b=>bs.contains b) s.hp 0 rdDepth x=some iv→VR (okc X {E with h:=delAll E.h bs}) E.w.heap iv v:=fun x v iv h e=>by
    rw[← hr.h] at e;refine rd_sound hr.wr _ 0 _ (fun t c hc h=>(hE.ok t c hc h).1) (fun b y hb hg=>?_) rdDepth x v iv h e;have hb:b∈bs:=by simpa using hb
    refine .inl ⟨?_,?_⟩
    ·rcases (hr.wr.blk b y hg).2.2 with h1|h1
     ·exact h1
     ·have:=(hr.wr.a0 b _ h1).1;have:=hbPB b hb;omega
    ·rintro (⟨b2,h1,h2⟩|hH)
     ·simp only[Heap.get_delAll] at h1
      split at h1
      ·simp at h1
      ·rename_i hnb
       have:=hr.wr.inj b2 b h1 (by simp[hg]) h2
       subst this;exact hnb hb
     ·obtain ⟨o,ho⟩:=Option.isSome_iff_exists.1 hH
      exact (hr.wr.hid _ o ho).2.2 ⟨b,by simp[hg],rfl⟩
   have hput:∀ (w:A1),A1R X {E with h:=delAll E.h bs} w (a.tmps.getD t undef)→TR X {E with h:=delAll E.h bs} {s with tm:=s.tm.set t (.v w),hp:=delAll s.hp bs} a:=fun w hw=>by
    have h0:=hr.tr.ext (s':=s) hE rfl;refine ⟨h0.defers,by simpa using h0.size,fun i v hv=>?_⟩;simp only at hv;by_cases e:i=t
    ·subst e
     have hlt:i<s.tm.length:=by have:=(List.getElem?_eq_some_iff.1 hv).1;simpa using this
     rw[List.getElem?_set_self hlt] at hv;simp at hv;subst hv;exact hw
    ·rw[List.getElem?_set_ne (Ne.symm e)] at hv
     exact h0.at_ i v hv
   split at hs
   ·rename_i vs xs hvs
    simp at hs;subst hs;obtain ⟨ws,hq,hrr⟩:=hv;refine ⟨{E with h:=delAll E.h bs},rfl,⟨by simp[hr.h],hr.ct,hW',hput (.agg (vs.map I)) ⟨ws,hq,?_⟩⟩,hE⟩;exact (hrr.of_traverse (fun x v iv h e=>hrd x v iv h e) hvs).map I fun _ _ r=>r
   ·rename_i v0 x0 hvs
    simp at hs;subst hs;have hv:CC X E x0 _:=hv;simp only[A1.cells,traverse] at hvs;split at hvs
    ·simp at hvs
    ·rename_i iv hiv
     simp at hvs;subst hvs;exact ⟨{E with h:=delAll E.h bs},rfl,⟨by simp[hr.h],hr.ct,hW',hput (.c (I iv)) (hrd _ _ _ hv hiv)⟩,hE⟩
   ·simp at hs
  ·simp at hs
theorem insL_sound(hR:RunOk P G R)(hG:GOk X G){ops:Array Oper}{Q:Exit→Act→World→Prop}:∀ (l:List Ins) (i:Nat) (s:St) (E:Env) (a:Act),okInsL P ops l i=true→i≤ops.size→insL G R l s=some s'→Rel X E s a →
  (∀ E' a',Rel X E' s' a'→Ext X E E'→E.w.heap.size≤E'.w.heap.size→Q .normal a' E'.w)→wpOps P ops Q ((List.range (ops.size-i)).map (i+·)) a E.w
 |[],i,s,E,a,hk,hi,hs,hr,hQ=>by
  simp[okInsL] at hk
  simp[insL] at hs
  subst hs
  subst hk
  simp[wpOps]
  exact hQ E a hr (Ext.refl X E) (Nat.le_refl _)
 |x::l,i,s,E,a,hk,hi,hs,hr,hQ=>by
  simp only[insL] at hs
  split at hs
  ·rename_i s1 hs1
   cases x with
   |op d g k =>
    simp[okInsL] at hk
    have hlt:i<ops.size:=by
     rcases Nat.lt_or_ge i ops.size with h|h
     ·exact h
     ·have:=hk.1
      simp[okIns,Array.getElem?_eq_none h] at this
    have hrng:(List.range (ops.size-i)).map (i+·)=i::(List.range (ops.size-(i+1))).map (i+1+·):=by
     have:ops.size-i=(ops.size-(i+1))+1:=by omega
     rw[this,List.range_succ_eq_map]
     simp only[List.map_cons,List.map_map,Nat.add_zero]
     congr 1
     apply List.map_congr_left
     intro j _
     simp
     omega
    rw[hrng,wpOps_cons]
    refine ins_op hR hG hr hk.1 hs1 fun E' a' h1 h2 h3 _=>?_
    exact insL_sound hR hG l (i+1) s1 E' a' hk.2 hlt hs h1 fun E'' a'' g1 g2 g3=>hQ E'' a'' g1 (h2.trans g2 h3) (Nat.le_trans h3 g3)
   |kill ts bs =>
    obtain ⟨E',h1,h2,h3⟩:=ins_ghost hr rfl hs1
    rw[← h1]
    exact insL_sound hR hG l i s1 E' a (by simpa[okInsL] using hk) hi hs h2 fun E'' a'' g1 g2 g3=>hQ E'' a'' g1 (h3.trans g2 (by rw[h1];exact Nat.le_refl _)) (by rw[← h1];exact g3)
   |frz t =>
    obtain ⟨E',h1,h2,h3⟩:=ins_ghost hr rfl hs1
    rw[← h1]
    exact insL_sound hR hG l i s1 E' a (by simpa[okInsL] using hk) hi hs h2 fun E'' a'' g1 g2 g3=>hQ E'' a'' g1 (h3.trans g2 (by rw[h1];exact Nat.le_refl _)) (by rw[← h1];exact g3)
  ·simp at hs
theorem ghosts_sound:∀ (l:List Ins) (s:St) (E:Env),l.all (fun x=>!x.isOp)=true→insL G R l s=some s'→Rel X E s a→∃ E',E'.w=E.w∧Rel X E' s' a∧Ext X E E'
 |[],s,E,_,hs,hr=>by simp[insL] at hs;subst hs;exact ⟨E,rfl,hr,Ext.refl X E⟩
 |x::l,s,E,hk,hs,hr=>by
  simp only[insL] at hs
  simp at hk
  split at hs
  ·rename_i s1 hs1
   obtain ⟨E1,h1,h2,h3⟩:=ins_ghost hr (by simpa using hk.1) hs1
   obtain ⟨E2,g1,g2,g3⟩:=ghosts_sound l s1 E1 (by simpa using hk.2) hs h2
   exact ⟨E2,g1.trans h1,g2,h3.trans g3 (by rw[h1];exact Nat.le_refl _)⟩
  ·simp at hs
end
section
variable {G:Nat→List IV} {R:Run} {s s':St}
theorem ev_congr{x:Opd}(h:∀ t∈opdT x,s.get t=s'.get t):ev s x=ev s' x:=by
 cases x<;>simp[ev,opdT] at h ⊢
 exact h
theorem traverse_congr{α β:Type}{f g:α→Option β}:∀ {l:List α},(∀ x∈l,f x=g x)→traverse f l=traverse g l
 |[],_=>rfl
 |a::l,h=>by
  simp only[traverse]
  rw[h a (List.mem_cons_self ..),traverse_congr fun x hx=>h x (List.mem_cons_of_mem _ hx)]
theorem bound_congr{d:Nat}{x:Option Opd}(h:∀ t∈optT x,s.get t=s'.get t):bound d s x=bound d s' x:=by
 cases x<;>simp[bound,optT] at h ⊢
 rw[ev_congr h]
theorem doCall_congr(h1:s.hp=s'.hp)(h2:s.ct=s'.ct){f:Nat}{args:List A1}{how:How}:doCall R s f args how=doCall R s' f args how:=by
 simp only[doCall,h1,h2]
theorem opK_congr(h0:s.tm.length=s'.tm.length)(h1:s.hp=s'.hp)(h2:s.ct=s'.ct){d:Nat}{k:K}(h:∀ t∈k.reads,s.get t=s'.get t):opK G R s d k=opK G R s' d k:=by
 have hl:∀ {l:List Opd},(∀ t∈l.flatMap opdT,s.get t=s'.get t)→∀ x∈l,ev s x=ev s' x:=fun h x hx=>ev_congr fun t ht=>h t (List.mem_flatMap.2 ⟨x,hx,ht⟩);cases k
 case call f l how =>
  simp only[K.reads] at h;have e:evals s l=evals s' l:=traverse_congr fun x hx=>by rw[hl h x hx]
  simp only[opK,e];split
  ·exact doCall_congr h1 h2
  ·rfl
 case callv x l how =>
  simp only[K.reads,List.mem_append] at h;have e:evals s l=evals s' l:=traverse_congr fun x hx=>by rw[hl (fun t ht=>h t (.inr ht)) x hx]
  have e2:ev s x=ev s' x:=ev_congr fun t ht=>h t (.inl ht);simp only[opK,e,e2];split<;>first|exact doCall_congr h1 h2|rfl
 case build z ps l =>
  simp only[K.reads] at h;have e:traverse (fun p:Nat×Opd=>(ev s p.2).one.map fun a=>(p.1,a)) l=traverse (fun p:Nat×Opd=>(ev s' p.2).one.map fun a=>(p.1,a)) l :=
   traverse_congr fun x hx=>by rw[ev_congr (s:=s) (s':=s') fun t ht=>h t (List.mem_flatMap.2 ⟨x,hx,ht⟩)]
  simp only[opK,step,ok1,e,h1,h2]
 case bsl sz n z l own =>
  simp only[K.reads] at h;have e:traverse (fun p:Nat×Opd=>(ev s p.2).one.map fun a=>(p.1,a)) l=traverse (fun p:Nat×Opd=>(ev s' p.2).one.map fun a=>(p.1,a)) l :=
   traverse_congr fun x hx=>by rw[ev_congr (s:=s) (s':=s') fun t ht=>h t (List.mem_flatMap.2 ⟨x,hx,ht⟩)]
  simp only[opK,step,e,h1,h2]
 case mkfn f l =>
  simp only[K.reads] at h;simp only[opK,step,h1,h2];refine congrArg (fun q:Option (List AR)=>match q with|some cs=>some (AV.v (A1.c (mkClo f cs)),s'.hp,s'.ct)|none=>none) (traverse_congr fun x hx=>?_);rw[hl h x hx]
 case mx l =>
  simp only[K.reads] at h;have e:l.map (ev s)=l.map (ev s'):=List.map_congr_left fun x hx=>hl h x hx;simp only[opK,step,e,h1,h2]
 case mn l =>
  simp only[K.reads] at h;have e:l.map (ev s)=l.map (ev s'):=List.map_congr_left fun x hx=>hl h x hx;simp only[opK,step,e,h1,h2]
 case alloc|mkmap|lenA=>simp only[opK,step,okv,h1,h2]
 case galloc n t =>
  have ht:=h t (by simp[K.reads]);simp only[opK,step,h0,h1,h2,ht]
 case pick|mupd|ests =>
  simp only[K.reads,List.mem_append] at h;have e1:=ev_congr fun t ht=>h t (.inl (.inl ht));have e2:=ev_congr fun t ht=>h t (.inl (.inr ht));have e3:=ev_congr fun t ht=>h t (.inr ht);simp only[opK,step,e1,e2,e3,h1,h2]
 case slcS =>
  simp only[K.reads,List.mem_append] at h;have e1:=ev_congr fun t ht=>h t (.inl (.inl ht));have e2:=fun d=>bound_congr (d:=d) fun t ht=>h t (.inl (.inr ht));have e3:=fun d=>bound_congr (d:=d) fun t ht=>h t (.inr ht);simp only[opK,step,okv,e1,e2,e3,h1,h2]
 case slcA =>
  simp only[K.reads,List.mem_append] at h;have e1:=ev_congr fun t ht=>h t (.inl (.inl ht));have e2:=fun d=>bound_congr (d:=d) fun t ht=>h t (.inl (.inr ht));have e3:=fun d=>bound_congr (d:=d) fun t ht=>h t (.inr ht);simp only[opK,step,e1,e2,e3,h1,h2]
 case slc =>
  simp only[K.reads,List.mem_append] at h;have e1:=ev_congr fun t ht=>h t (.inl (.inl (.inl ht)));have e2:=fun d=>bound_congr (d:=d) fun t ht=>h t (.inl (.inl (.inr ht)));have e3:=fun d=>bound_congr (d:=d) fun t ht=>h t (.inl (.inr ht));have e4:=fun d=>bound_congr (d:=d) fun t ht=>h t (.inr ht);simp only[opK,step,e1,e2,e3,e4,h1,h2]
 case mov|fld|un|cvI|cvIS|cvSS|cvBS|cvSB|box|load|nilchk|fadr|len|ext|rng|nxt|gsto|clr =>
  simp only[K.reads] at h;have e1:=ev_congr h;simp only[opK,step,okv,ok1,e1,h1,h2]
 all_goals
  simp only[K.reads,List.mem_append] at h;have e1:=ev_congr fun t ht=>h t (.inl ht);have e2:=ev_congr fun t ht=>h t (.inr ht);simp only[opK,step,okv,ok1,appTo,e1,e2,h1,h2]
theorem insV_congr(h0:s.tm.length=s'.tm.length)(h1:s.hp=s'.hp)(h2:s.ct=s'.ct){d:Option Nat}{g:Option (Nat×Bool)}{k:K}(h:∀ t∈(Ins.op d g k).reads,s.get t=s'.get t):insV G R s d g k=insV G R s' d g k:=by
 simp only[Ins.reads,List.mem_append] at h;have hw:want s g=want s' g:=by
  cases g with
  |none=>rfl
  |some p=>simp only[want];rw[h p.1 (.inl (by simp))]
 simp only[insV,hw,h1,h2];rw[opK_congr h0 h1 h2 fun t ht=>h t (.inr ht)]
theorem step_stays{d:Nat}{k:K}(hk:k.turns=false){r:AV×Heap×Nat}(h:opK G R s d k=some r):r.2.1=s.hp∧r.2.2=s.ct:=by
 have okv_:∀ {v:Option IV},okv s v=some r→r.2.1=s.hp∧r.2.2=s.ct:=fun {v} h=>by
  cases v<;>simp[okv] at h
  subst h;exact ⟨rfl,rfl⟩
 have ok1_:∀ {v:Option A1},ok1 s v=some r→r.2.1=s.hp∧r.2.2=s.ct:=fun {v} h=>by
  cases v<;>simp[ok1] at h
  subst h;exact ⟨rfl,rfl⟩
 have map_:∀ {v:Option AV},(v.map fun v=>(v,s.hp,s.ct))=some r→r.2.1=s.hp∧r.2.2=s.ct:=fun {v} h=>by
  cases v<;>simp at h
  subst h;exact ⟨rfl,rfl⟩
 have some_:∀ {v:AV},some (v,s.hp,s.ct)=some r→r.2.1=s.hp∧r.2.2=s.ct:=fun {v} h=>by
  simp at h;subst h;exact ⟨rfl,rfl⟩
 have dc:∀ {f:Nat} {as:List A1} {how:How},how.pure=true→doCall R s f as how=some r→r.2.1=s.hp∧r.2.2=s.ct:=fun {f as how} hp h=>by
  simp only[doCall,hp,if_true] at h;repeat' split at h
  all_goals first|exact some_ h|simp at h
 cases k<;>simp[K.turns] at hk
 case call =>
  simp only[opK] at h;split at h
  ·exact dc hk h
  ·simp at h
 case callv =>
  simp only[opK] at h;split at h
  ·exact dc hk h
  ·exact dc hk h
  ·simp at h
 case bsl =>
  subst hk;simp only[opK,step,Bool.false_eq_true,if_false] at h;repeat' split at h
  all_goals first|exact some_ h|simp at h
 all_goals
  simp only[opK,step] at h;repeat' split at h
  all_goals first|exact okv_ h|exact ok1_ h|exact map_ h|exact some_ h|(simp at h;done)
theorem insV_stays{d:Option Nat}{g:Option (Nat×Bool)}{k:K}(hk:k.turns=false){r:AV×Heap×Nat}(h:insV G R s d g k=some r):r.2.1=s.hp∧r.2.2=s.ct:=by
 simp only[insV] at h;split at h
 ·exact step_stays hk h
 ·simp at h;subst h;exact ⟨rfl,rfl⟩
 ·simp at h
end
/- Equality. -/
mutual
theorem eqIV_sound:∀ (x y:IV),eqIV x y=true→x=y
  |.bool a,y,h=>by cases y<;>simp[eqIV] at h ⊢<;>exact h
  |.int k a,y,h=>by cases y<;>simp[eqIV] at h ⊢<;>exact h
  |.str a,y,h=>by cases y<;>simp[eqIV] at h ⊢<;>exact h
  |.nilS,y,h=>by cases y<;>simp[eqIV] at h ⊢
  |.emp,y,h=>by cases y<;>simp[eqIV] at h ⊢
  |.nilP,y,h=>by cases y<;>simp[eqIV] at h ⊢
  |.nilM,y,h=>by cases y<;>simp[eqIV] at h ⊢
  |.nilF,y,h=>by cases y<;>simp[eqIV] at h ⊢
  |.nilI,y,h=>by cases y<;>simp[eqIV] at h ⊢
  |.lit t a n,y,h=>by
    cases y<;>simp[eqIV] at h ⊢
    exact ⟨h.1.1,eqIVs_sound _ _ h.1.2,h.2⟩
  |.lp t a,y,h=>by
    cases y<;>simp[eqIV] at h ⊢
    exact ⟨h.1,eqIVs_sound _ _ h.2⟩
  |.gp g o,y,h=>by cases y<;>simp[eqIV] at h ⊢<;>exact h
  |.clo f a,y,h=>by
    cases y<;>simp[eqIV] at h ⊢
    exact ⟨h.1,eqIVs_sound _ _ h.2⟩
theorem eqIVs_sound:∀ (x y:List IV),eqIVs x y=true→x=y
  |[],y,h=>by cases y<;>simp[eqIVs] at h ⊢
  |x::l,y,h=>by
    cases y<;>simp[eqIVs] at h ⊢
    exact ⟨eqIV_sound _ _ h.1,eqIVs_sound _ _ h.2⟩
end
theorem eqL_sound{α:Type}{f:α→α→Bool}(hf:∀ x y,f x y=true→x=y):∀ (x y:List α),eqL f x y=true→x=y
 |[],y,h=>by cases y<;>simp[eqL] at h ⊢
 |x::l,y,h=>by
  cases y<;>simp[eqL] at h ⊢
  exact ⟨hf _ _ h.1,eqL_sound hf _ _ h.2⟩
theorem eqAR_sound(x y:AR)(h:eqAR x y=true):x=y:=by
 cases x<;>cases y<;>simp[eqAR] at h ⊢
 ·exact eqIV_sound _ _ h
 ·exact ⟨h.1.1,h.1.2,h.2⟩
 ·exact ⟨h.1.1.1.1,h.1.1.1.2,h.1.1.2,h.1.2,h.2⟩
 ·exact h
theorem eqAC_sound(x y:AC)(h:eqAC x y=true):x=y:=by
 cases x<;>cases y<;>simp[eqAC] at h ⊢
 ·exact eqAR_sound _ _ h
 ·exact ⟨h.1,eqL_sound eqAR_sound _ _ h.2⟩
theorem eqA1_sound(x y:A1)(h:eqA1 x y=true):x=y:=by
 cases x<;>cases y<;>simp[eqA1] at h ⊢
 ·exact eqAC_sound _ _ h
 ·exact eqL_sound eqAC_sound _ _ h
theorem eqAV_sound(x y:AV)(h:eqAV x y=true):x=y:=by
 cases x<;>cases y<;>simp[eqAV] at h ⊢
 ·exact eqA1_sound _ _ h
 ·exact eqL_sound eqA1_sound _ _ h
end Go.Abs
namespace Go.Abs
def Run.le(R R':Run):Prop:=∀ f args bs r,R f args bs=some r→R' f args bs=some r
section
variable {G:Nat→List IV} {R R':Run}
theorem doCall_mono(h:R.le R'){s:St}{f:Nat}{args:List A1}{how:How}{r:AV×Heap×Nat}(e:doCall R s f args how=some r):doCall R' s f args how=some r:=by
 unfold doCall at e ⊢;by_cases hp:how.pure=true
 ·simp only[hp,if_true] at e ⊢
  split at e
  ·split at e
   ·rename_i rs hh hr
    rw[h _ _ _ _ hr];exact e
   ·simp at e
  ·simp at e
 ·simp only[hp] at e ⊢
  simp only[Bool.false_eq_true,if_false] at e ⊢;split at e
  ·split at e
   ·rename_i rs hh hr
    rw[h _ _ _ _ hr];exact e
   ·simp at e
  ·simp at e
theorem opK_mono(h:R.le R'){s:St}{d:Nat}{k:K}{r:AV×Heap×Nat}(e:opK G R s d k=some r):opK G R' s d k=some r:=by
 cases k
 case call =>
  simp only[opK] at e ⊢;split at e
  ·exact doCall_mono h e
  ·simp at e
 case callv =>
  simp only[opK] at e ⊢;split at e
  ·exact doCall_mono h e
  ·exact doCall_mono h e
  ·simp at e
 all_goals exact e
theorem insV_mono(h:R.le R'){s:St}{d:Option Nat}{g:Option (Nat×Bool)}{k:K}{r:AV×Heap×Nat}(e:insV G R s d g k=some r):insV G R' s d g k=some r:=by
 unfold insV at e ⊢;split at e
 ·exact opK_mono h e
 ·exact e
 ·exact e
theorem insI_mono(h:R.le R'){s:St}{i:Ins}{r:St}(e:insI G R s i=some r):insI G R' s i=some r:=by
 cases i
 case op =>
  simp only[insI] at e ⊢;split at e
  ·rename_i q hq
   rw[insV_mono h hq];exact e
  ·simp at e
 all_goals exact e
theorem insL_mono(h:R.le R'):∀ {l:List Ins} {s r:St},insL G R l s=some r→insL G R' l s=some r
 |[],s,r,e=>e
 |i::l,s,r,e=>by
  simp only[insL] at e ⊢
  split at e
  ·rename_i s1 h1
   rw[insI_mono h h1]
   exact insL_mono h e
  ·simp at e
theorem trail_mono(h:R.le R'):∀ {l:List Ins} {s:St} {r:List St×List (Heap×Nat)},trail G R l s=some r→trail G R' l s=some r
 |[],s,r,e=>e
 |i::l,s,r,e=>by
  simp only[trail] at e ⊢
  split at e
  ·rename_i s1 h1
   rw[insI_mono h h1]
   simp only
   split at e
   ·rename_i ss hs h2
    rw[trail_mono h h2]
    exact e
   ·simp at e
  ·simp at e
theorem stableAt_mono(h:R.le R'){x:Ins}{s:St}{m:Heap×Nat}(e:stableAt G R x s m=true):stableAt G R' x s m=true:=by
 cases x
 case op =>
  simp only[stableAt] at e ⊢;split at e
  ·rename_i r r' h1 h2
   rw[insV_mono h h1,insV_mono h h2];exact e
  ·simp at e
 all_goals exact e
theorem drawDyn_mono(h:R.le R'){l:List Ins}{pre:List (List Nat)}{ss:List St}{hs:List (Heap×Nat)}(e:drawDyn G R l pre ss hs=true):drawDyn G R' l pre ss hs=true:=by
 simp only[drawDyn,List.all_eq_true,List.mem_range] at e ⊢;intro i hi
 have:=e i hi
 split at this
 ·simp only[Bool.or_eq_true,beq_iff_eq,List.all_eq_true,List.mem_range] at this ⊢
  rcases this with h1|h1|h1
  ·exact .inl h1
  ·exact .inr (.inl h1)
  ·refine .inr (.inr fun c hc=>?_)
   have:=h1 c hc
   split at this
   ·exact stableAt_mono h this
   ·simp at this
 ·simp at this
theorem loopN_mono{f g:St→Option (Ex×St)}(h:∀ s r,f s=some r→g s=some r):∀ {n m:Nat} {s:St} {r:Ex×St},n≤m→loopN f n s=some r→loopN g m s=some r
 |0,m,s,r,_,e=>by simp[loopN] at e
 |n+1,0,s,r,hm,e=>by omega
 |n+1,m+1,s,r,hm,e=>by
  simp only[loopN] at e ⊢
  split at e
  ·rename_i s1 h1
   rw[h _ _ h1]
   exact loopN_mono h (Nat.le_of_succ_le_succ hm) e
  ·rename_i hne
   have:=h _ _ e
   rw[this]
   split
   ·rename_i s1 h2
    simp at h2
    subst h2
    exact absurd e (hne _)
   ·rfl
theorem exec_mono(h:R.le R'){n m:Nat}(hn:n≤m):∀ {x:IR} {s:St} {r:Ex×St},exec G R n x s=some r→exec G R' m x s=some r
 |.skip,s,r,e=>e
 |.reg l,s,r,e=>by
  simp only[exec] at e ⊢
  split at e
  ·rename_i s1 h1
   rw[insL_mono h h1]
   exact e
  ·simp at e
 |.regD l pre,s,r,e=>by
  simp only[exec] at e ⊢
  split at e
  ·rename_i ss hs h1
   rw[trail_mono h h1]
   simp only
   split at e
   ·rename_i hd
    rw[drawDyn_mono h hd]
    exact e
   ·simp at e
  ·simp at e
 |.ghost l a,s,r,e=>by
  simp only[exec] at e ⊢
  split at e
  ·rename_i s1 h1
   rw[insL_mono h h1]
   exact exec_mono h hn e
  ·simp at e
 |.seq a b,s,r,e=>by
  simp only[exec] at e ⊢
  split at e
  ·rename_i s1 h1
   rw[exec_mono h hn h1]
   exact exec_mono h hn e
  ·rename_i hne
   rw[exec_mono h hn e]
   split
   ·rename_i s1 h2
    simp at h2
    subst h2
    exact absurd e (hne _)
   ·rfl
 |.cond x a b,s,r,e=>by
  simp only[exec] at e ⊢
  split at e
  ·exact exec_mono h hn e
  ·exact exec_mono h hn e
  ·simp at e
 |.block id a,s,r,e=>by
  simp only[exec] at e ⊢
  split at e
  ·rename_i i s1 h1
   rw[exec_mono h hn h1]
   exact e
  ·rename_i hne
   rw[exec_mono h hn e]
   split
   ·rename_i i s1 h2
    simp at h2
    subst h2
    exact absurd e (hne _ _)
   ·rfl
 |.loop a,s,r,e=>by
  simp only[exec] at e ⊢
  exact loopN_mono (fun s r=>exec_mono h hn) hn e
 |.exit id,s,r,e=>e
 |.ret,s,r,e=>e
theorem run_mono{F:Nat→Option Fn}{X:Run}{n m:Nat}(hn:n≤m):∀ {d e:Nat},d≤e→(run G F X n d).le (run G F X m e)
 |0,e,_=>fun f args bs r h=>by simp[run] at h
 |d+1,0,hd=>by omega
 |d+1,e+1,hd=>fun f args bs r h=>by
  simp only[run] at h ⊢
  split at h
  ·rename_i hf
   exact h
  ·rename_i fn hf
   have ih:=run_mono (F:=F) (X:=X) hn (Nat.le_of_succ_le_succ hd)
   split at h
   ·simp at h
   ·rename_i ex s1 hne h1
    rw[exec_mono ih hn h1]
    cases ex with
    |exit i=>exact absurd rfl (hne i)
    |normal=>exact h
    |ret=>exact h
   ·simp at h
end
section
variable {G:Nat→List IV}
structure Lim(A:Nat→Run)(L:Run):Prop where
  mono:∀ {j k},j≤k→(A j).le (A k)
  ex:∀ f args bs r,L f args bs=some r→∃ k,A k f args bs=some r
variable {A:Nat→Run} {L:Run}
theorem Lim.doCall(H:Lim A L){s:St}{f:Nat}{args:List A1}{how:How}{r:AV×Heap×Nat}(e:doCall L s f args how=some r):∃ k,doCall (A k) s f args how=some r:=by
 by_cases hp:how.pure=true
 ·simp only[Abs.doCall,hp,if_true] at e ⊢
  split at e
  ·split at e
   ·rename_i rs hh hr
    obtain ⟨k,hk⟩:=H.ex _ _ _ _ hr;refine ⟨k,?_⟩;rw[hk];exact e
   ·simp at e
  ·simp at e
 ·simp only[Abs.doCall,hp] at e ⊢
  simp only[Bool.false_eq_true,if_false] at e ⊢;split at e
  ·split at e
   ·rename_i rs hh hr
    obtain ⟨k,hk⟩:=H.ex _ _ _ _ hr;refine ⟨k,?_⟩;rw[hk];exact e
   ·simp at e
  ·simp at e
theorem Lim.opK(H:Lim A L){s:St}{d:Nat}{k:K}{r:AV×Heap×Nat}(e:opK G L s d k=some r):∃ j,opK G (A j) s d k=some r:=by
 cases k
 case call =>
  simp only[Abs.opK] at e ⊢;split at e
  ·exact H.doCall e
  ·simp at e
 case callv =>
  simp only[Abs.opK] at e ⊢;split at e
  ·exact H.doCall e
  ·exact H.doCall e
  ·simp at e
 all_goals exact ⟨0,e⟩
theorem Lim.insV(H:Lim A L){s:St}{d:Option Nat}{g:Option (Nat×Bool)}{k:K}{r:AV×Heap×Nat}(e:insV G L s d g k=some r):∃ j,insV G (A j) s d g k=some r:=by
 unfold Abs.insV at e ⊢;split at e
 ·exact H.opK e
 ·exact ⟨0,e⟩
 ·exact ⟨0,e⟩
theorem Lim.insI(H:Lim A L){s:St}{i:Ins}{r:St}(e:insI G L s i=some r):∃ j,insI G (A j) s i=some r:=by
 cases i
 case op =>
  simp only[Abs.insI] at e ⊢;split at e
  ·rename_i q hq
   obtain ⟨j,hj⟩:=H.insV hq;refine ⟨j,?_⟩;rw[hj];exact e
  ·simp at e
 all_goals exact ⟨0,e⟩
theorem Lim.insL(H:Lim A L):∀ {l:List Ins} {s r:St},insL G L l s=some r→∃ j,insL G (A j) l s=some r
 |[],s,r,e=>⟨0,e⟩
 |i::l,s,r,e=>by
  simp only[Abs.insL] at e ⊢
  split at e
  ·rename_i s1 h1
   obtain ⟨j,hj⟩:=H.insI h1
   obtain ⟨k,hk⟩:=H.insL e
   refine ⟨max j k,?_⟩
   rw[insI_mono (H.mono (Nat.le_max_left j k)) hj]
   exact insL_mono (H.mono (Nat.le_max_right j k)) hk
  ·simp at e
theorem Lim.trail(H:Lim A L):∀ {l:List Ins} {s:St} {r:List St×List (Heap×Nat)},trail G L l s=some r→∃ j,trail G (A j) l s=some r
 |[],s,r,e=>⟨0,e⟩
 |i::l,s,r,e=>by
  simp only[Abs.trail] at e ⊢
  split at e
  ·rename_i s1 h1
   obtain ⟨j,hj⟩:=H.insI h1
   split at e
   ·rename_i ss hs h2
    obtain ⟨k,hk⟩:=H.trail h2
    refine ⟨max j k,?_⟩
    rw[insI_mono (H.mono (Nat.le_max_left j k)) hj]
    simp only
    rw[trail_mono (H.mono (Nat.le_max_right j k)) hk]
    exact e
   ·simp at e
  ·simp at e
theorem Lim.stableAt(H:Lim A L){x:Ins}{s:St}{m:Heap×Nat}(e:stableAt G L x s m=true):∃ j,stableAt G (A j) x s m=true:=by
 cases x
 case op =>
  simp only[Abs.stableAt] at e ⊢;split at e
  ·rename_i r r' h1 h2
   obtain ⟨j,hj⟩:=H.insV h1;obtain ⟨k,hk⟩:=H.insV h2;refine ⟨max j k,?_⟩;rw[insV_mono (H.mono (Nat.le_max_left j k)) hj,insV_mono (H.mono (Nat.le_max_right j k)) hk];exact e
  ·simp at e
 all_goals exact ⟨0,e⟩
theorem all_at{α:Type}{p:Nat→α→Prop}(hm:∀ {j k} (x:α),j≤k→p j x→p k x):∀ (l:List α),(∀ x∈l,∃ k,p k x)→∃ k,∀ x∈l,p k x
 |[],_=>⟨0,by simp⟩
 |a::l,h=>by
  obtain ⟨j,hj⟩:=h a (List.mem_cons_self ..)
  obtain ⟨k,hk⟩:=all_at hm l fun x hx=>h x (List.mem_cons_of_mem _ hx)
  refine ⟨max j k,fun x hx=>?_⟩
  rcases List.mem_cons.1 hx with rfl|hx
  ·exact hm _ (Nat.le_max_left j k) hj
  ·exact hm _ (Nat.le_max_right j k) (hk x hx)
theorem Lim.drawDyn(H:Lim A L){l:List Ins}{pre:List (List Nat)}{ss:List St}{hs:List (Heap×Nat)}(e:drawDyn G L l pre ss hs=true):∃ j,drawDyn G (A j) l pre ss hs=true:=by
 simp only[Abs.drawDyn,List.all_eq_true] at e ⊢;refine all_at (fun i hjk h=>?_) _ fun i hi=>?_
 ·split at h
  ·simp only[Bool.or_eq_true,beq_iff_eq,List.all_eq_true,List.mem_range] at h ⊢
   rcases h with h1|h1|h1
   ·exact .inl h1
   ·exact .inr (.inl h1)
   ·refine .inr (.inr fun c hc=>?_)
    have:=h1 c hc
    split at this
    ·exact stableAt_mono (H.mono hjk) this
    ·simp at this
  ·simp at h
 ·have h:=e i hi
  split at h
  ·rename_i x0 s0 _ _
   simp only[Bool.or_eq_true,beq_iff_eq,List.all_eq_true] at h ⊢;rcases h with h1|h1|h1
   ·exact ⟨0,.inl h1⟩
   ·exact ⟨0,.inr (.inl h1)⟩
   ·have:∃ k,∀ c∈List.range (hiOf l pre i+1-loOf l pre i),(match hs[loOf l pre i+c]? with|some h=>Abs.stableAt G (A k) x0 s0 h|none=>false)=true:=by
     refine all_at (fun c hjk h=>?_) _ fun c hc=>?_
     ·split at h
      ·exact stableAt_mono (H.mono hjk) h
      ·simp at h
     ·have:=h1 c hc
      split at this
      ·rename_i h0 hq
       simp only[hq];exact H.stableAt this
      ·simp at this
    obtain ⟨k,hk⟩:=this;exact ⟨k,.inr (.inr hk)⟩
  ·simp at h
theorem Lim.loop{f:St→Option (Ex×St)}{g:Nat→St→Option (Ex×St)}(hm:∀ (j k:Nat) (s:St) (r:Ex×St),j≤k→g j s=some r→g k s=some r)(hf:∀ s r,f s=some r→∃ k,g k s=some r) :
  ∀ {n:Nat} {s:St} {r:Ex×St},loopN f n s=some r→∃ k,loopN (g k) n s=some r
 |0,s,r,e=>by simp[loopN] at e
 |n+1,s,r,e=>by
  simp only[loopN] at e
  split at e
  ·rename_i s1 h1
   obtain ⟨j,hj⟩:=hf _ _ h1
   obtain ⟨k,hk⟩:=Lim.loop hm hf e
   refine ⟨max j k,?_⟩
   simp only[loopN]
   rw[hm _ _ _ _ (Nat.le_max_left j k) hj]
   exact loopN_mono (fun s r=>hm _ _ _ _ (Nat.le_max_right j k)) (Nat.le_refl _) hk
  ·rename_i hne
   obtain ⟨j,hj⟩:=hf _ _ e
   refine ⟨j,?_⟩
   simp only[loopN]
   rw[hj]
   split
   ·rename_i s1 h2
    simp at h2
    subst h2
    exact absurd e (hne _)
   ·rfl
theorem Lim.exec(H:Lim A L){n:Nat}:∀ {x:IR} {s:St} {r:Ex×St},exec G L n x s=some r→∃ k,exec G (A k) n x s=some r
 |.skip,s,r,e=>⟨0,e⟩
 |.reg l,s,r,e=>by
  simp only[Abs.exec] at e ⊢
  split at e
  ·rename_i s1 h1
   obtain ⟨k,hk⟩:=H.insL h1
   exact ⟨k,by rw[hk];exact e⟩
  ·simp at e
 |.regD l pre,s,r,e=>by
  simp only[Abs.exec] at e ⊢
  split at e
  ·rename_i ss hs h1
   obtain ⟨j,hj⟩:=H.trail h1
   split at e
   ·rename_i hd
    obtain ⟨k,hk⟩:=H.drawDyn hd
    refine ⟨max j k,?_⟩
    rw[trail_mono (H.mono (Nat.le_max_left j k)) hj]
    simp only
    rw[drawDyn_mono (H.mono (Nat.le_max_right j k)) hk]
    exact e
   ·simp at e
  ·simp at e
 |.ghost l a,s,r,e=>by
  simp only[Abs.exec] at e ⊢
  split at e
  ·rename_i s1 h1
   obtain ⟨j,hj⟩:=H.insL h1
   obtain ⟨k,hk⟩:=Lim.exec H e
   refine ⟨max j k,?_⟩
   rw[insL_mono (H.mono (Nat.le_max_left j k)) hj]
   exact exec_mono (H.mono (Nat.le_max_right j k)) (Nat.le_refl _) hk
  ·simp at e
 |.seq a b,s,r,e=>by
  simp only[Abs.exec] at e ⊢
  split at e
  ·rename_i s1 h1
   obtain ⟨j,hj⟩:=Lim.exec H h1
   obtain ⟨k,hk⟩:=Lim.exec H e
   refine ⟨max j k,?_⟩
   rw[exec_mono (H.mono (Nat.le_max_left j k)) (Nat.le_refl _) hj]
   exact exec_mono (H.mono (Nat.le_max_right j k)) (Nat.le_refl _) hk
  ·rename_i hne
   obtain ⟨j,hj⟩:=Lim.exec H e
   refine ⟨j,?_⟩
   rw[hj]
   split
   ·rename_i s1 h2
    simp at h2
    subst h2
    exact absurd e (hne _)
   ·rfl
 |.cond x a b,s,r,e=>by
  simp only[Abs.exec] at e ⊢
  split at e
  ·exact Lim.exec H e
  ·exact Lim.exec H e
  ·simp at e
 |.block id a,s,r,e=>by
  simp only[Abs.exec] at e ⊢
  split at e
  ·rename_i i s1 h1
   obtain ⟨j,hj⟩:=Lim.exec H h1
   exact ⟨j,by rw[hj];exact e⟩
  ·rename_i hne
   obtain ⟨j,hj⟩:=Lim.exec H e
   refine ⟨j,?_⟩
   rw[hj]
   split
   ·rename_i i s1 h2
    simp at h2
    subst h2
    exact absurd e (hne _ _)
   ·rfl
 |.loop a,s,r,e=>by
  simp only[Abs.exec] at e ⊢
  exact Lim.loop (g:=fun k=>Abs.exec G (A k) n a) (fun _ _ _ _ hjk h=>exec_mono (H.mono hjk) (Nat.le_refl _) h) (fun s r h=>Lim.exec H h) e
 |.exit id,s,r,e=>⟨0,e⟩
 |.ret,s,r,e=>⟨0,e⟩
end
section
variable (G:Nat→List IV) (F:Nat→Option Fn) (X:Run)
noncomputable def lim:Run:=fun f args bs =>
  open Classical in if h : ∃ r n d,run G F X n d f args bs = some r then some h.choose else none
variable {G F X}
theorem lim_of{f:Nat}{args:List A1}{bs:List Blk}{r:List A1×Heap}{n d:Nat}(h:run G F X n d f args bs=some r):lim G F X f args bs=some r:=by
 have hex:∃ r n d,run G F X n d f args bs=some r:=⟨r,n,d,h⟩;unfold lim;rw[dif_pos hex];obtain ⟨n',d',h'⟩:=hex.choose_spec;have h1:=run_mono (F:=F) (X:=X) (G:=G) (Nat.le_max_left n n') (Nat.le_max_left d d') _ _ _ _ h;have h2:=run_mono (F:=F) (X:=X) (G:=G) (Nat.le_max_right n n') (Nat.le_max_right d d') _ _ _ _ h';rw[h1] at h2;simp at h2;rw[← h2]
theorem lim_ex{f:Nat}{args:List A1}{bs:List Blk}{r:List A1×Heap}(h:lim G F X f args bs=some r):∃ n d,run G F X n d f args bs=some r:=by
 unfold lim at h;split at h
 ·rename_i hex
  obtain ⟨n',d',h'⟩:=hex.choose_spec;simp at h;rw[h] at h';exact ⟨n',d',h'⟩
 ·simp at h
theorem lim_lim:Lim (fun k=>run G F X k k) (lim G F X) :=
 ⟨fun h=>run_mono h h,fun f args bs r h=>by
  obtain ⟨n,d,h⟩:=lim_ex h
  exact ⟨max n d,run_mono (Nat.le_max_left n d) (Nat.le_max_right n d) _ _ _ _ h⟩⟩
theorem lim_fn{f:Nat}{fn:Fn}(hf:F f=some fn){args:List A1}{bs:List Blk}{n:Nat}{ex:Ex}{s:St}{rs:List A1}(he:exec G (lim G F X) n fn.body (start fn args bs)=some (ex,s))
  (hx:∀ i,ex≠.exit i) (hr:traverse (readRes s) fn.res=some rs):lim G F X f args bs=some (rs,s.hp):=by
 obtain ⟨k,hk⟩:=(lim_lim (G:=G) (F:=F) (X:=X)).exec he;refine lim_of (n:=max n k) (d:=k+1) ?_;simp only[run,hf];rw[exec_mono (run_mono (G:=G) (F:=F) (X:=X) (Nat.le_max_right n k) (Nat.le_refl k)) (Nat.le_max_left n k) hk];cases ex with
 |exit i=>exact absurd rfl (hx i)
 |normal=>simp only[hr]
 |ret=>simp only[hr]
theorem lim_x{f:Nat}(hf:F f=none)(args:List A1)(bs:List Blk){r:List A1×Heap}(h:X f args bs=some r):lim G F X f args bs=some r :=
 lim_of (n:=0) (d:=1) (by simp only[run,hf];exact h)
end
end Go.Abs
namespace Go.Abs
open Go.RowKit
def Cx.hide(X:Cx)(H:Nat→Option Obj):Cx:={X with H:=H}
structure ExtH(X X':Cx)(E E':Env):Prop where
  h:E'.h=E.h
  m:E'.m=E.m
  ct:E'.ct=E.ct
  live:∀ c,E.live c→E'.w.heap[c]?=E.w.heap[c]?
  ok:∀ t c,c<E.w.heap.size→okc X E t c→okc X' E' t c∧E'.w.heap[c]?=E.w.heap[c]?
theorem isSome_cur{h:Heap}{b g:Nat}(e:h.cur b=some g):(h.get b).isSome=true:=by
 unfold Heap.cur at e;cases hq:h.get b with
 |none=>rw[hq] at e;simp at e
 |some x=>rfl
section
variable {X X':Cx} {E E':Env}
theorem RR.extH(h:ExtH X X' E E'){a:AR}{v:Value}(r:RR X E a v):RR X' E' a v:=by
 cases a with
 |i x=>exact VR.mono h.ok r
 |ptr b g off =>
  obtain ⟨h1,h2,h3⟩:=r;refine ⟨h1,by rw[h.ct];exact h2,fun hc=>?_⟩;rw[h.h] at hc;rw[h.m];exact h3 hc
 |map b g =>
  obtain ⟨h1,h2,h3⟩:=r;refine ⟨h1,by rw[h.ct];exact h2,fun hc=>?_⟩;rw[h.h] at hc;rw[h.m];exact h3 hc
 |sl b g off sz len =>
  obtain ⟨h1,h2,h3⟩:=r;refine ⟨h1,by rw[h.ct];exact h2,fun hc=>?_⟩;rw[h.h] at hc;rw[h.m];obtain ⟨q4,q5⟩:=h3 hc;refine ⟨q4,?_⟩;rcases q5 with ⟨cap,q5,q6,cs,e,fr,q7,q8⟩|q5
  ·exact .inl ⟨cap,q5,q6,cs,e,fr,by rw[h.live _ ⟨b,isSome_cur hc,rfl⟩];exact q7,q8⟩
  ·exact .inr q5
theorem CC.extH(h:ExtH X X' E E'){a:AC}{v:Value}(r:CC X E a v):CC X' E' a v:=by
 cases a with
 |r a=>exact RR.extH h r
 |clo f caps =>
  obtain ⟨vs,e,r⟩:=r;exact ⟨vs,e,r.mono fun _ _=>RR.extH h⟩
theorem A1R.extH(h:ExtH X X' E E'){a:A1}{v:Value}(r:A1R X E a v):A1R X' E' a v:=by
 cases a with
 |c a=>exact CC.extH h r
 |agg xs =>
  obtain ⟨vs,e,r⟩:=r;exact ⟨vs,e,r.mono fun _ _=>CC.extH h⟩
theorem AVR.extH(h:ExtH X X' E E'){a:AV}{v:Value}(r:AVR X E a v):AVR X' E' a v:=by
 cases a with
 |und=>trivial
 |skp=>exact r
 |v a=>exact A1R.extH h r
 |tup l =>
  obtain ⟨vs,e,r⟩:=r;exact ⟨vs,e,r.mono fun _ _=>A1R.extH h⟩
theorem EntR.extH(h:ExtH X X' E E'){a:Ent}{v:MapEntry}(r:EntR X E a v):EntR X' E' a v :=
 ⟨r.key.extH h,r.val.extH h,r.born⟩
theorem BR.extH(h:ExtH X X' E E'){b:Nat}{x:Blk}(hb:(E.h.get b).isSome=true)(r:BR X E b x):BR X' E' b x:=by
 have hl:=h.live _ ⟨b,hb,rfl⟩;cases x with
 |cells g cs =>
  obtain ⟨cc,e,fr,h1,h2,h3,h4⟩:=r;refine ⟨cc,e,fr,by rw[h.m,hl];exact h1,h2,by rw[h.m];exact h3,fun i x hi hx=>?_⟩;rw[h.m] at hi;obtain ⟨v,hv,hr⟩:=h4 i x hi hx;exact ⟨v,by rw[h.m];exact hv,hr.extH h⟩
 |map g es clock =>
  obtain ⟨ces,h1,h2⟩:=r;exact ⟨ces,by rw[h.m,hl];exact h1,h2.mono fun _ _=>EntR.extH h⟩
 |iter g s pos =>
  obtain ⟨bs,h1,h2⟩:=r;exact ⟨bs,by rw[h.m,hl];exact h1,h2⟩
theorem WR.extH{H':Nat→Option Obj}(hW:WR X E)(h:ExtH X (X.hide H') E E')(hsz:E.w.heap.size≤E'.w.heap.size)(hst:∀ c,c<X.w0.heap.size→E'.w.heap[c]?=E.w.heap[c]?)
  (ho:E'.w.os=E.w.os) (ht:E'.w.tape=E.w.tape) (hu:E'.w.output=E.w.output) (hid:∀ c o,H' c=some o→E'.w.heap[c]?=some o∧X.w0.heap.size≤c∧¬ E'.live c):WR (X.hide H') E':=by
 refine ⟨fun b x hx=>?_,fun b b' h1 h2 h3=>?_,Nat.le_trans hW.size hsz,fun c hc hA=>(hst c hc).trans (hW.still c hc hA),ho.trans hW.os,ht.trans hW.tape,hu.trans hW.output,hW.f1,hW.a0,hid⟩
 ·rw[h.h] at hx
  obtain ⟨h1,h2,h3⟩:=hW.blk b x hx;exact ⟨h1.extH h (by simp[hx]),by rw[h.ct];exact h2,by rw[h.m];exact h3⟩
 ·rw[h.h] at h1 h2;rw[h.m] at h3
  exact hW.inj b b' h1 h2 h3
theorem Ext.stepH{E0:Env}(h:Ext X E0 E)(hh:E'.h=E.h)(hm:E'.m=E.m)(hc:E'.ct=E.ct)(hl:∀ c,E.live c→E'.w.heap[c]?=E.w.heap[c]?)(ho:∀ c,c<E0.w.heap.size→E'.w.heap[c]?=E.w.heap[c]?):Ext X E0 E':=by
 refine ⟨by rw[hc];exact h.ct,fun b g hg hcur=>?_,fun t c hlt hok=>?_⟩
 ·rw[hh] at hcur
  obtain ⟨q1,q2,q3⟩:=h.cur b g hg hcur;refine ⟨q1,by rw[hm];exact q2,fun cc e fr hcc=>?_⟩;obtain ⟨cc',e',fr',r1,r2⟩:=q3 cc e fr hcc;refine ⟨cc',e',fr',?_,r2⟩;rw[hl _ ⟨b,isSome_cur hcur,by rw[q2]⟩];exact r1
 ·obtain ⟨q1,q2⟩:=h.ok t c hlt hok
  refine ⟨?_,(ho c hlt).trans q2⟩;rcases q1 with ⟨p1,p2⟩|p
  ·refine .inl ⟨p1,fun k=>p2 ?_⟩
   rcases k with ⟨b,k1,k2⟩|k
   ·rw[hh] at k1;rw[hm] at k2
    exact .inl ⟨b,k1,k2⟩
   ·exact .inr k
  ·exact .inr p
theorem Ext.transH{E0:Env}{H:Nat→Option Obj}(h:Ext X E0 E)(k:Ext (X.hide H) E E')(hs:E0.w.heap.size≤E.w.heap.size)(hH:∀ c o,H c=some o→X.H c=some o∨E0.w.heap.size≤c)(hb:∀ c o,X.H c=some o→H c=some o):Ext X E0 E':=by
 refine ⟨Nat.le_trans h.ct k.ct,fun b g hg hc=>?_,fun t c hlt ho=>?_⟩
 ·obtain ⟨q1,q2,q3⟩:=k.cur b g (Nat.lt_of_lt_of_le hg h.ct) hc
  obtain ⟨p1,p2,p3⟩:=h.cur b g hg q1;refine ⟨p1,q2.trans p2,fun cc e fr hcc=>?_⟩;obtain ⟨cc',e',fr',r1,r2⟩:=p3 cc e fr hcc;rw[p2] at q3;obtain ⟨cc'',e'',fr'',r3,r4⟩:=q3 cc' e' fr' r1;exact ⟨cc'',e'',fr'',r3,r4.trans r2⟩
 ·obtain ⟨q1,q2⟩:=h.ok t c hlt ho
  have q1':okc (X.hide H) E t c:=by
   rcases q1 with ⟨p1,p2⟩|p
   ·refine .inl ⟨p1,fun k=>p2 ?_⟩
    rcases k with k|k
    ·exact .inl k
    ·obtain ⟨o,ho⟩:=Option.isSome_iff_exists.1 k
     rcases hH c o ho with r|r
     ·exact .inr (by rw[r];rfl)
     ·omega
   ·exact .inr p
  obtain ⟨p1,p2⟩:=k.ok t c (Nat.lt_of_lt_of_le hlt hs) q1';refine ⟨?_,p2.trans q2⟩;rcases p1 with ⟨r1,r2⟩|r
  ·refine .inl ⟨r1,fun k=>r2 ?_⟩
   rcases k with k|k
   ·exact .inl k
   ·obtain ⟨o,ho⟩:=Option.isSome_iff_exists.1 k
    exact .inr (by show (H c).isSome=true;rw[hb c o ho];rfl)
  ·exact .inr r
end
def galT(P:Program)(ty n:Nat):Bool:=match P.info? ty with
  |some i=>match i.zero with
    |some z=>z.cells.size==n
    |none=>false
  |none=>false
section
variable {P:Program} {X:Cx} {E:Env} {s:St} {a:Act} {o:Oper} {ops:Array Oper} {i:Nat} {H:Nat→Option Obj} {next:Act→World→Prop} {Q:Exit→Act→World→Prop}
theorem traverse_cellI{p:Nat→Nat→Prop}{h:Array Obj}:∀ {X:Cx} {E:Env} {cs:List AC} {vs:List Value} {is:List IV},p=okc X E→h=E.w.heap→All2 (CC X E) cs vs→traverse cellI cs=some is→All2 (VR p h) is vs:=by
 intro X E cs vs is hp hh h e;subst hp;subst hh;refine h.of_traverse (fun x v iv r e=>?_) e;cases x with
 |r y =>
  cases y<;>simp[cellI] at e
  subst e;exact r
 |clo=>simp[cellI] at e
theorem gal_op(hr:Rel (X.hide H) E s a){ty t n:Nat}(ho:ops[i]?=some o)(hg:o.guard=none)(hd:o.dst=some t)(hop:o.op=.alloc ty)(hz:galT P ty n=true)(hu:s.get t=.und)
  (hn:∀ (cs:Array Value) (e:TypeId) (E':Env),E'={E with w:=E.w.alloc (.cells cs e)}→cs.size=n→E'.w.heap=E.w.heap.push (.cells cs e (0,0)) →
   Rel (X.hide fun k=>if k=E.w.heap.size then some (.cells cs e (0,0)) else H k) E' s (a.put (some t) (.pointer (some ⟨E.w.heap.size,0,none⟩)))→next (a.put (some t) (.pointer (some ⟨E.w.heap.size,0,none⟩))) E'.w) :
  wpOp P ops Q i next a E.w:=by
 unfold galT at hz;split at hz
 ·rename_i inf hi
  split at hz
  ·rename_i z hzz
   have hzn:z.cells.size=n:=by simpa using hz
   unfold wpOp;have hw:Region.wanted o (yielded ops a.tmps)=true:=by simp[Region.wanted,hg]
   simp only[ho,hw,if_true];refine .inl ?_;unfold Oper.wp;have hrun:(execOp a.eval o).run P E.w=.ok (.value (.pointer (some ⟨E.w.heap.size,0,none⟩))) (E.w.alloc (.cells z.cells ty)):=by
    simp[execOp,hop,Instr.alloc,zeroValue,typeInfo,hi,hzz,newVar,newRow]
   rw[hrun,Oper.upon_value,hd];have hheap:(E.w.alloc (.cells z.cells ty)).heap=E.w.heap.push (.cells z.cells ty (0,0)):=rfl;refine hn z.cells ty {E with w:=E.w.alloc (.cells z.cells ty)} rfl hzn hheap ?_;have hpush:∀ k,k<E.w.heap.size→(E.w.alloc (.cells z.cells ty)).heap[k]?=E.w.heap[k]?:=fun k hk=>by rw[hheap,Array.getElem?_push,if_neg (by omega)]
   have hlive:∀ c,E.live c→c<E.w.heap.size:=fun c ⟨b,h1,h2⟩=>by
    obtain ⟨y,hy⟩:=Option.isSome_iff_exists.1 h1
    have:=hr.wr.lt hy
    omega
   have hE:ExtH (X.hide H) ((X.hide H).hide fun k=>if k=E.w.heap.size then some (.cells z.cells ty (0,0)) else H k) E {E with w:=E.w.alloc (.cells z.cells ty)}:=by
    refine ⟨rfl,rfl,rfl,fun c hc=>hpush c (hlive c hc),fun t c hc hok=>⟨?_,hpush c hc⟩⟩;rcases hok with ⟨p1,p2⟩|p
    ·refine .inl ⟨p1,fun k=>p2 ?_⟩
     rcases k with k|k
     ·exact .inl k
     ·refine .inr ?_
      have:((fun k=>if k=E.w.heap.size then some (Obj.cells z.cells ty (0,0)) else H k) c).isSome=true:=k;simp only[if_neg (show ¬ c=E.w.heap.size by omega)] at this;exact this
    ·exact .inr p
   refine ⟨hr.h,hr.ct,hr.wr.extH hE (by simp[hheap]) (fun c hc=>hpush c (Nat.lt_of_lt_of_le hc hr.wr.size)) rfl rfl rfl fun c o' hc=>?_,⟨hr.tr.defers,by simp[Act.put,hr.tr.size],fun j v hv=>?_⟩⟩
   ·have _hz:=trivial
    split at hc
    ·rename_i e
     subst e;simp at hc;subst hc;exact ⟨by rw[hheap,Array.getElem?_push];simp,hr.wr.size,fun k=>absurd (hlive _ k) (Nat.lt_irrefl _)⟩
    ·obtain ⟨g1,g2,g3⟩:=hr.wr.hid c o' hc
     exact ⟨by rw[hpush c (Array.getElem?_eq_some_iff.1 g1).1];exact g1,g2,g3⟩
   ·by_cases e:j=t
    ·subst e
     have:v=.und:=by
      unfold St.get at hu;rw[List.getD_eq_getElem?_getD,hv] at hu;simpa using hu
     subst this;trivial
    ·have:=(hr.tr.at_ j v hv).extH hE
     have e2:(a.put (some t) (.pointer (some ⟨E.w.heap.size,0,none⟩))).tmps.getD j undef=a.tmps.getD j undef:=by
      simp[Act.put,Array.getD_eq_getD_getElem?,Array.getElem?_setIfInBounds_ne (Ne.symm e)]
     rw[e2];exact this
  ·simp at hz
 ·simp at hz
theorem gst_op(hr:Rel (X.hide H) E s a){ty t n c:Nat}{agg:Bool}{x:Operand}{y:Opd}{cs:Array Value}{e:TypeId}{w:A1}{is:List IV}(ho:ops[i]?=some o)(hg:o.guard=none)(hd:o.dst=none)(hop:o.op=.store ty (.tmp t) x)
  (hx:okOpd x y=true) (hty:tyOk P ty n agg=true) (hp:a.tmps.getD t undef=.pointer (some ⟨c,0,none⟩)) (hH:H c=some (.cells cs e (0,0))) (hcs:cs.size=n) (hy:ev s y=.v w) (hw:w.cells.length=n) (hi:traverse cellI w.cells=some is)
  (hn:∀ (E':Env),E'.h=E.h→E'.m=E.m→E'.ct=E.ct→(∀ k,k≠c→E'.w.heap[k]?=E.w.heap[k]?)→E'.w.heap.size=E.w.heap.size→¬ E.live c→X.w0.heap.size≤c →
   Rel (X.hide fun k=>if k=c then none else H k) E' (s.put (some t) (V (.lp 0 is))) a→next a E'.w) :
  wpOp P ops Q i next a E.w:=by
 unfold wpOp;have hwant:Region.wanted o (yielded ops a.tmps)=true:=by simp[Region.wanted,hg]
 simp only[ho,hwant,if_true];refine .inl ?_;unfold Oper.wp;obtain ⟨g1,g2,g3⟩:=hr.wr.hid c _ hH;have ry:=ev_sound hr.tr hx;rw[hy] at ry;have rc:=cells_sound (a1:=w) ry;have hnl:=rc.length;have hpe:a.eval (.tmp t)=.pointer (some ⟨c,0,none⟩):=hp;have hst:=run_storeAt_cells (P:=P) (off:=0) (val:=a.eval x) hty g1 (.inr (Nat.le_refl _)) (by simp at hnl;omega) (.inr (by omega)) (All2.one rc);have hrun:(execOp a.eval o).run P E.w=.ok .skip (E.w.setCells c 0 (a.eval x).cells.toList):=by
  simp[execOp,hop,hpe,hst]
 rw[hrun,Oper.upon_skip,hd];obtain ⟨cs',q1,q2,q3,q4,q5,q6,q7,q8,q9⟩:=setCells_heap c (a.eval x).cells.toList 0 E.w cs e (0,0) g1;have hc0:X.w0.heap.size≤c:=g2;have hE:ExtH (X.hide H) ((X.hide H).hide fun k=>if k=c then none else H k) E {E with w:=E.w.setCells c 0 (a.eval x).cells.toList}:=by
  refine ⟨rfl,rfl,rfl,fun k hk=>q5 k fun e=>g3 (e ▸ hk),fun tg k hk hok=>?_⟩;have hne:k≠c:=by
   rintro rfl;rcases hok with ⟨_,p⟩|⟨_,p⟩
   ·exact p (.inr (by show (H k).isSome=true;rw[hH];rfl))
   ·have:=(hr.wr.f1 k p).1
    have:k<X.w0.heap.size:=this;omega
  refine ⟨?_,q5 k hne⟩;rcases hok with ⟨p1,p2⟩|p
  ·refine .inl ⟨p1,fun r=>p2 ?_⟩
   rcases r with r|r
   ·exact .inl r
   ·refine .inr ?_
    have:((fun k=>if k=c then none else H k) k).isSome=true:=r;simp only[if_neg hne] at this;exact this
  ·exact .inr p
 refine hn {E with w:=E.w.setCells c 0 (a.eval x).cells.toList} rfl rfl rfl q5 q6 g3 hc0 ?_;have ris:=traverse_cellI rfl rfl rc hi;have hv0:AVR (X.hide fun k=>if k=c then none else H k) {E with w:=E.w.setCells c 0 (a.eval x).cells.toList} (V (.lp 0 is)) (a.tmps.getD t undef):=by
  rw[hp];have hl2:=ris.length;refine VR.lp 0 is c 0 cs' e (0,0) (a.eval x).cells.toList (.inl ⟨hc0,fun r=>?_⟩) q1 hl2 (fun j v hv=>?_) (fun j z v hz hv=>?_)
  ·rcases r with r|r
   ·exact g3 r
   ·have:((fun k=>if k=c then (none:Option Obj) else H k) c).isSome=true:=r
    simp at this
  ·have hj:=(List.getElem?_eq_some_iff.1 hv).1
   rw[Nat.zero_add,q3 j (Nat.zero_le _) (by omega) (by simp at hnl hj;omega),Nat.sub_zero];exact hv
  ·obtain ⟨v',h1,h2⟩:=ris.get j z hz
   rw[hv] at h1;simp at h1;subst h1;exact VR.mono hE.ok h2
 refine ⟨hr.h,hr.ct,hr.wr.extH hE (by simp[q6]) (fun k hk=>q5 k (by have:k<X.w0.heap.size:=hk;omega)) q7 q8 q9 fun k o' hk=>?_,⟨hr.tr.defers,by simp[St.put,hr.tr.size],fun j v hv=>?_⟩⟩
 ·have _hz:=trivial
  split at hk
  ·simp at hk
  ·rename_i hne
   obtain ⟨p1,p2,p3⟩:=hr.wr.hid k o' hk;exact ⟨(q5 k hne).trans p1,p2,p3⟩
 ·simp only[St.put] at hv
  by_cases e:j=t
  ·subst e
   have hlt:j<s.tm.length:=by
    have:=(List.getElem?_eq_some_iff.1 hv).1;simpa using this
   rw[List.getElem?_set_self hlt] at hv;simp at hv;subst hv;exact hv0
  ·rw[List.getElem?_set_ne (Ne.symm e)] at hv
   exact (hr.tr.at_ j v hv).extH hE
end
structure Draw(l:List Ins)(pre:List (List Nat)):Prop where
  op:∀ (i:Nat) (x:Ins),l[i]?=some x→∃ d g k,x=.op d g k
  dst:∀ (i j:Nat) (x y:Ins) (t:Nat),l[i]?=some x→l[j]?=some y→x.dst=some t→y.dst=some t→i=j
  rw_:∀ (i j:Nat) (x y:Ins) (t:Nat),l[i]?=some x→l[j]?=some y→x.dst=some t→t∈y.reads→i≠j→preHas pre i j=true∨preHas pre j i=true
  tt:∀ (i j:Nat),turnAt l i=true→turnAt l j=true→i≠j→preHas pre i j=true∨preHas pre j i=true
  lt:∀ i j:Nat,preHas pre i j=true→j<i
theorem Draw.of{l:List Ins}{pre:List (List Nat)}(h:drawStatic l pre=true):Draw l pre:=by
 simp only[drawStatic,Bool.and_eq_true,List.all_eq_true,beq_iff_eq,List.mem_range] at h;obtain ⟨⟨⟨h1,h2⟩,h3⟩,h4⟩:=h;have pair:∀ (i j:Nat) (x y:Ins),l[i]?=some x→l[j]?=some y→i≠j →
   (x.dst.isNone=true∨x.dst≠y.dst)∧(preHas pre i j=true∨preHas pre j i=true∨((∀ t,x.dst=some t→t∉y.reads)∧(∀ t,y.dst=some t→t∉x.reads)∧¬ (x.turns=true∧y.turns=true))):=by
  have one:∀ (i j:Nat) (x y:Ins),l[i]?=some x→l[j]?=some y→j<i →
   (x.dst.isNone=true∨x.dst≠y.dst)∧(preHas pre i j=true∨preHas pre j i=true∨((∀ t,x.dst=some t→t∉y.reads)∧(∀ t,y.dst=some t→t∉x.reads)∧¬ (x.turns=true∧y.turns=true))):=by
   intro i j x y hx hy hlt;have hp:=h3 i (List.getElem?_eq_some_iff.1 hx).1 j hlt;simp only[pairOk,hx,hy,Bool.and_eq_true,Bool.or_eq_true,bne_iff_ne] at hp;refine ⟨hp.1,?_⟩;rcases hp.2 with (h|h)|h
   ·exact .inl h
   ·exact .inr (.inl h)
   ·refine .inr (.inr ⟨fun t ht hm=>?_,fun t ht hm=>?_,fun ⟨a,b⟩=>?_⟩)
    ·have:=h.1.1;rw[ht] at this;simp[hm] at this
    ·have:=h.1.2;rw[ht] at this;simp[hm] at this
    ·have:=h.2;simp[a,b] at this
  intro i j x y hx hy hne;rcases Nat.lt_or_ge j i with hlt|hge
  ·exact one i j x y hx hy hlt
  ·obtain ⟨h1,h2⟩:=one j i y x hy hx (by omega)
   refine ⟨?_,?_⟩
   ·cases hq:x.dst with
    |none=>exact .inl rfl
    |some d =>
     refine .inr fun e=>?_;rcases h1 with h1|h1
     ·rw[← e] at h1;simp at h1
     ·exact h1 (by rw[← e,hq])
   ·rcases h2 with h|h|⟨a,b,c⟩
    ·exact .inr (.inl h)
    ·exact .inl h
    ·exact .inr (.inr ⟨b,a,fun ⟨u,v⟩=>c ⟨v,u⟩⟩)
 refine ⟨fun i x hx=>?_,fun i j x y t hx hy h1 h2=>?_,fun i j x y t hx hy h1 h2 hne=>?_,fun i j hi hj hne=>?_,fun i j h=>?_⟩
 ·have:=h1 x (List.mem_of_getElem? hx)
  cases x<;>simp[Ins.isOp] at this
  exact ⟨_,_,_,rfl⟩
 ·rcases Nat.decEq i j with hne|he
  ·rcases (pair i j x y hx hy hne).1 with h|h
   ·rw[h1] at h;simp at h
   ·exact absurd (h1.trans h2.symm) h
  ·exact he
 ·rcases (pair i j x y hx hy hne).2 with h|h|⟨a,_,_⟩
  ·exact .inl h
  ·exact .inr h
  ·exact absurd h2 (a t h1)
 ·unfold turnAt at hi hj
  split at hi
  ·rename_i x hx
   split at hj
   ·rename_i y hy
    rcases (pair i j x y hx hy hne).2 with h|h|⟨_,_,a⟩
    ·exact .inl h
    ·exact .inr h
    ·exact absurd ⟨hi,hj⟩ a
   ·simp at hj
  ·simp at hi
 ·unfold preHas at h
  split at h
  ·rename_i p hp
   have:=h4 (p,i) (by
    rw[List.mem_iff_getElem?];exact ⟨i,by simp[List.getElem?_zipIdx,hp]⟩)
   have:=this j (by simpa using h)
   simpa using this
  ·simp at h
def updS(S:Nat→Bool)(i:Nat):Nat→Bool:=fun j=>S j||j==i
theorem countP_upd(S T:Nat→Bool)(i:Nat)(hS:S i=false):∀ n,(List.range n).countP (fun j=>updS S i j&&T j)=(List.range n).countP (fun j=>S j&&T j)+if i<n∧T i=true then 1 else 0
 |0=>by simp
 |n+1=>by
  rw[List.range_succ,List.countP_append,List.countP_append,countP_upd S T i hS n]
  simp only[List.countP_singleton]
  by_cases e:i=n
  ·subst e
   simp[updS,hS]
  ·have e2:(n==i)=false:=by simp;omega
   have e3:(i<n+1)↔(i<n):=by omega
   simp only[updS,e2,Bool.or_false,e3]
   omega
theorem cntS_upd{l:List Ins}{S:Nat→Bool}{i:Nat}(hS:S i=false)(hi:i<l.length):cntS l (updS S i)=cntS l S+if turnAt l i=true then 1 else 0:=by
 rw[cntS,countP_upd S (turnAt l) i hS];simp[hi,cntS]
theorem cntS_congr{l:List Ins}{S T:Nat→Bool}(h:∀ j,turnAt l j=true→S j=T j):cntS l S=cntS l T:=by
 unfold cntS;apply List.countP_congr;intro j _;by_cases e:turnAt l j=true
 ·rw[h j e]
 ·simp[e]
theorem cntS_mono{l:List Ins}{S T:Nat→Bool}(h:∀ j,turnAt l j=true→S j=true→T j=true):cntS l S≤cntS l T:=by
 unfold cntS;apply List.countP_mono_left;intro j _ hj;simp at hj ⊢;exact ⟨h j hj.2 hj.1,hj.2⟩
abbrev ltS(i:Nat):Nat→Bool:=fun j=>decide (j<i)
section
variable {G:Nat→List IV} {R:Run}
structure Canon(G:Nat→List IV)(R:Run)(l:List Ins)(s0:St)(ss:List St)(hs:List (Heap×Nat)):Prop where
  at0:ss[0]?=some s0
  step:∀ (i:Nat) (x:Ins),l[i]?=some x→∃ s s',ss[i]?=some s∧ss[i+1]?=some s'∧insI G R s x=some s'
  mem:∀ (i:Nat) (s:St),i≤l.length→ss[i]?=some s→hs[cntS l (ltS i)]?=some (s.hp,s.ct)
  len:ss.length=l.length+1
theorem cntS_cons(x:Ins)(l:List Ins)(i:Nat):cntS (x::l) (ltS (i+1))=cntS l (ltS i)+if x.turns=true then 1 else 0:=by
 have e:(List.range l.length).countP ((fun j=>ltS (i+1) j&&turnAt (x::l) j) ∘ Nat.succ)=(List.range l.length).countP (fun j=>ltS i j&&turnAt l j):=by
  apply List.countP_congr;intro j _;simp[turnAt,ltS]
 have f:(ltS (i+1) 0&&turnAt (x::l) 0)=x.turns:=by simp[ltS,turnAt]
 unfold cntS;rw[List.length_cons,List.range_succ_eq_map,List.countP_cons,List.countP_map,e,f]
theorem with_mem{s:St}{d:Option Nat}{r:AV×Heap×Nat}:(s.with d r).hp=r.2.1∧(s.with d r).ct=r.2.2:=by
 cases d<;>simp[St.with,St.put]
theorem Canon.of:∀ {l:List Ins} {s0:St} {ss:List St} {hs:List (Heap×Nat)},(∀ x∈l,x.isOp=true)→trail G R l s0=some (ss,hs)→Canon G R l s0 ss hs
 |[],s0,ss,hs,_,h=>by
  simp[trail] at h
  obtain ⟨rfl,rfl⟩:=h
  refine ⟨rfl,fun i x hx=>by simp at hx,fun i s hi hs=>?_,rfl⟩
  simp at hi
  subst hi
  simp at hs
  subst hs
  simp[cntS]
 |x::l,s0,ss,hs,hop,h=>by
  simp only[trail] at h
  split at h
  ·rename_i s1 hs1
   split at h
   ·rename_i ss1 hh1 ht
    simp at h
    obtain ⟨rfl,rfl⟩:=h
    have ih:=Canon.of (fun y hy=>hop y (List.mem_cons_of_mem _ hy)) ht
    refine ⟨rfl,fun i y hy=>?_,fun i s hi hs=>?_,by simp[ih.len]⟩
    ·cases i with
     |zero =>
      simp at hy
      subst hy
      exact ⟨s0,s1,rfl,by simpa using ih.at0,hs1⟩
     |succ i=>exact ih.step i y (by simpa using hy)
    ·cases i with
     |zero =>
      simp at hs
      subst hs
      have e:cntS (x::l) (ltS 0)=0:=by simp[cntS,ltS]
      rw[e]
      by_cases ht2:x.turns=true
      ·simp[ht2]
      ·have m:=ih.mem 0 s1 (Nat.zero_le _) ih.at0
       have e0:cntS l (ltS 0)=0:=by simp[cntS,ltS]
       rw[e0] at m
       simp only[ht2,Bool.false_eq_true,if_false]
       rw[m]
       have:=hop x (List.mem_cons_self ..)
       cases x<;>simp[Ins.isOp] at this
       rename_i d g k
       simp only[insI] at hs1
       split at hs1
       ·rename_i r hr
        simp at hs1
        subst hs1
        have hk:k.turns=false:=by simpa[Ins.turns] using ht2
        have:=insV_stays hk hr
        rw[with_mem.1,with_mem.2,this.1,this.2]
       ·simp at hs1
     |succ i =>
      rw[cntS_cons]
      have m:=ih.mem i s (by simpa using hi) (by simpa using hs)
      by_cases ht2:x.turns=true
      ·simp[ht2,m]
      ·simp[ht2,m]
   ·simp at h
  ·simp at h
def wAt(G:Nat→List IV)(R:Run)(l:List Ins)(ss:List St)(i:Nat):AV :=
  match l[i]?,ss[i]? with
  |some (.op d g k),some s=>(match insV G R s d g k with|some r=>r.1|none=>.und)
  |_,_=>.und
structure At(G:Nat→List IV)(R:Run)(l:List Ins)(s0:St)(ss:List St)(hs:List (Heap×Nat))(S:Nat→Bool)(s:St):Prop where
  len:s.tm.length=s0.tm.length
  on:∀ (j:Nat) (x:Ins) (t:Nat),S j=true→l[j]?=some x→x.dst=some t→t<s0.tm.length→s.get t=wAt G R l ss j
  off:∀ t:Nat,(∀ (j:Nat) (x:Ins),S j=true→l[j]?=some x→x.dst≠some t)→s.get t=s0.get t
  mem:hs[cntS l S]?=some (s.hp,s.ct)
variable {l:List Ins} {pre:List (List Nat)} {s0:St} {ss:List St} {hs:List (Heap×Nat)} {S:Nat→Bool} {s:St}
theorem with_get_ne{d:Option Nat}{r:AV×Heap×Nat}{t:Nat}(h:d≠some t):(s.with d r).get t=s.get t:=by
 cases d with
 |none=>rfl
 |some d =>
  have:d≠t:=fun e=>h (by rw[e]);simp[St.with,St.put,St.get,List.getD_eq_getElem?_getD,List.getElem?_set_ne this]
theorem with_get{r:AV×Heap×Nat}{t:Nat}(h:t<s.tm.length):(s.with (some t) r).get t=r.1:=by
 simp[St.with,St.put,St.get,List.getD_eq_getElem?_getD,h]
theorem with_len{d:Option Nat}{r:AV×Heap×Nat}:(s.with d r).tm.length=s.tm.length:=by
 cases d<;>simp[St.with,St.put]
theorem At.put(D:Draw l pre)(h:At G R l s0 ss hs S s){i:Nat}{d:Option Nat}{g:Option (Nat×Bool)}{k:K}(hi:l[i]?=some (.op d g k)){r:AV×Heap×Nat}
  (hr:r.1=wAt G R l ss i) (hm:hs[cntS l (updS S i)]?=some (r.2.1,r.2.2)):At G R l s0 ss hs (updS S i) (s.with d r):=by
 refine ⟨by rw[with_len];exact h.len,fun j x t hj hx hd ht=>?_,fun t ht=>?_,by rw[hm,with_mem.1,with_mem.2]⟩
 ·simp[updS] at hj
  by_cases e:j=i
  ·subst e
   rw[hi] at hx;simp at hx;subst hx;have hd:d=some t:=hd;subst hd;rw[with_get (by rw[h.len];exact ht),hr]
  ·have hS:S j=true:=hj.resolve_right e
   have:d≠some t:=fun e2=>e (D.dst j i x _ t hx hi hd e2);rw[with_get_ne this];exact h.on j x t hS hx hd ht
 ·have:d≠some t:=fun e=>ht i _ (by simp[updS]) hi e
  rw[with_get_ne this];exact h.off t fun j x hj hx=>ht j x (by simp[updS,hj]) hx
theorem Canon.at_(C:Canon G R l s0 ss hs)(D:Draw l pre):∀ (i:Nat) (s:St),i≤l.length→ss[i]?=some s→At G R l s0 ss hs (ltS i) s
 |0,s,_,h=>by
  have:s=s0:=by have:=C.at0;rw[h] at this;simpa using this
  subst this
  exact ⟨rfl,fun j x t hj=>by simp[ltS] at hj,fun _ _=>rfl,C.mem 0 s (Nat.zero_le _) h⟩
 |i+1,s',hi,h=>by
  have hlt:i<l.length:=hi
  obtain ⟨x,hx⟩:∃ x,l[i]?=some x:=⟨l[i],by simp[hlt]⟩
  obtain ⟨s,s2,h1,h2,h3⟩:=C.step i x hx
  rw[h] at h2
  simp at h2
  subst h2
  obtain ⟨d,g,k,rfl⟩:=D.op i x hx
  have ih:=C.at_ D i s (Nat.le_of_lt hlt) h1
  simp only[insI] at h3
  split at h3
  ·rename_i r hr
   simp at h3
   subst h3
   have e:ltS (i+1)=updS (ltS i) i:=by
    funext j
    rw[Bool.eq_iff_iff]
    simp only[ltS,updS,Bool.or_eq_true,decide_eq_true_eq,beq_iff_eq]
    omega
   have hm:=C.mem (i+1) _ hi h
   rw[e,with_mem.1,with_mem.2] at hm
   rw[e]
   exact ih.put D hx (by simp[wAt,hx,h1,hr]) hm
  ·simp at h3
theorem get_big{t:Nat}(h:s.tm.length≤t):s.get t=.und:=by
 simp[St.get,List.getD_eq_getElem?_getD,List.getElem?_eq_none h]
theorem At.step(D:Draw l pre)(C:Canon G R l s0 ss hs)(hdyn:drawDyn G R l pre ss hs=true)(h:At G R l s0 ss hs S s)
  (hc:∀ j k,S j=true→preHas pre j k=true→S k=true) {i:Nat} (hS:S i=false) (hp:∀ k,preHas pre i k=true→S k=true) {x:Ins} (hi:l[i]?=some x) :
  ∃ s',insI G R s x=some s'∧At G R l s0 ss hs (updS S i) s':=by
 have hlt:i<l.length:=(List.getElem?_eq_some_iff.1 hi).1;obtain ⟨d,g,k,rfl⟩:=D.op i x hi;obtain ⟨si,s2,h1,h2,h3⟩:=C.step i _ hi;have Ai:=C.at_ D i si (Nat.le_of_lt hlt) h1;simp only[insI] at h3;split at h3;case h_2=>simp at h3
 rename_i rc hrc;simp at h3;have hw:wAt G R l ss i=rc.1:=by simp[wAt,hi,h1,hrc]
 have hreads:∀ t∈(Ins.op d g k).reads,s.get t=si.get t:=by
  intro t ht;by_cases hex:∃ (j:Nat) (x:Ins),l[j]?=some x∧x.dst=some t
  ·obtain ⟨j,y,hy,hd⟩:=hex
   by_cases hbig:t<s0.tm.length
   ·by_cases e:j=i
    ·subst e
     rw[h.off t fun j' x' hj' hx' e'=>by
       have:=D.dst j' j x' y t hx' hy e' hd
       subst this;rw[hS] at hj';simp at hj',
      Ai.off t fun j' x' hj' hx' e'=>by
       have:=D.dst j' j x' y t hx' hy e' hd
       subst this;simp[ltS] at hj']
    ·rcases D.rw_ j i y _ t hy hi hd ht e with hq|hq
     ·have hj:i<j:=D.lt _ _ hq
      have hSj:S j=false:=by
       cases hv:S j with
       |false=>rfl
       |true=>have:=hc j i hv hq;rw[hS] at this;simp at this
      rw[h.off t fun j' x' hj' hx' e'=>by
        have:=D.dst j' j x' y t hx' hy e' hd
        subst this;rw[hSj] at hj';simp at hj',
       Ai.off t fun j' x' hj' hx' e'=>by
        have:=D.dst j' j x' y t hx' hy e' hd
        subst this;simp[ltS] at hj';omega]
     ·have hj:j<i:=D.lt _ _ hq
      rw[h.on j y t (hp j hq) hy hd hbig,Ai.on j y t (by simp[ltS,hj]) hy hd hbig]
   ·rw[get_big (by rw[h.len];omega),get_big (by rw[Ai.len];omega)]
  ·rw[h.off t fun j' x' _ hx' e'=>hex ⟨j',x',hx',e'⟩,Ai.off t fun j' x' _ hx' e'=>hex ⟨j',x',hx',e'⟩]
 have same:cntS l S=cntS l (ltS i)→insV G R s d g k=some rc:=fun e=>by
  have m1:=h.mem;have m2:=Ai.mem;rw[e,m2] at m1;simp at m1;rw[insV_congr (h.len.trans Ai.len.symm) m1.1.symm m1.2.symm hreads];exact hrc
 by_cases ht:k.turns=true
 ·have hti:turnAt l i=true:=by simp[turnAt,hi,Ins.turns,ht]
  have e:cntS l S=cntS l (ltS i):=cntS_congr fun j hj=>by
   by_cases e:j=i
   ·subst e;simp[hS,ltS]
   ·rcases D.tt j i hj hti e with hq|hq
    ·have hj:i<j:=D.lt _ _ hq
     have hSj:S j=false:=by
      cases hv:S j with
      |false=>rfl
      |true=>have:=hc j i hv hq;rw[hS] at this;simp at this
     simp[hSj,ltS];omega
    ·have hj:j<i:=D.lt _ _ hq
     simp[hp j hq,ltS,hj]
  have hv:=same e;refine ⟨s.with d rc,by simp[insI,hv],h.put D hi hw.symm ?_⟩;rw[cntS_upd hS hlt,e];have m:=C.mem (i+1) s2 hlt h2;have e2:ltS (i+1)=updS (ltS i) i:=by
   funext j;rw[Bool.eq_iff_iff];simp only[ltS,updS,Bool.or_eq_true,decide_eq_true_eq,beq_iff_eq];omega
  rw[e2,cntS_upd (by simp[ltS]) hlt] at m;rw[m,← h3,with_mem.1,with_mem.2]
 ·have ht:k.turns=false:=by simpa using ht
  have hti:turnAt l i=false:=by simp[turnAt,hi,Ins.turns,ht]
  have lo1:loOf l pre i≤cntS l S:=cntS_mono fun j _ hj=>hp j hj;have hi1:cntS l S≤hiOf l pre i:=cntS_mono fun j _ hj=>by
   cases hq:preHas pre j i with
   |false=>rfl
   |true=>have:=hc j i hj hq;rw[hS] at this;simp at this
  have lo2:loOf l pre i≤cntS l (ltS i):=cntS_mono fun j _ hj=>by have:=D.lt _ _ hj;simp[ltS,this]
  have hi2:cntS l (ltS i)≤hiOf l pre i:=cntS_mono fun j _ hj=>by
   cases hq:preHas pre j i with
   |false=>rfl
   |true=>have:=D.lt _ _ hq;simp[ltS] at hj;omega
  have key:∃ r,insV G R s d g k=some r∧r.1=rc.1:=by
   simp only[drawDyn,List.all_eq_true,List.mem_range] at hdyn;have hd:=hdyn i hlt;simp only[hi,h1,Ins.turns,ht,Bool.false_or,Bool.or_eq_true,beq_iff_eq,List.all_eq_true,List.mem_range] at hd;rcases hd with hd|hd
   ·exact ⟨rc,same (by omega),rfl⟩
   ·have:=hd (cntS l S-loOf l pre i) (by omega)
    have e:loOf l pre i+(cntS l S-loOf l pre i)=cntS l S:=by omega
    rw[e,h.mem] at this;simp only[stableAt] at this;split at this
    ·rename_i r r' hr hr'
     rw[hrc] at hr;simp at hr;subst hr;refine ⟨r',?_,eqAV_sound _ _ this⟩;rw[← hr'];exact insV_congr (s:=s) (s':={si with hp:=s.hp,ct:=s.ct}) (h.len.trans Ai.len.symm) rfl rfl hreads
    ·simp at this
  obtain ⟨r,hr,hr1⟩:=key;refine ⟨s.with d r,by simp[insI,hr],h.put D hi (hr1.trans hw.symm) ?_⟩;rw[cntS_upd hS hlt];simp only[hti,Bool.false_eq_true,if_false,Nat.add_zero]
  have:=insV_stays ht hr
  rw[this.1,this.2,h.mem]
theorem St.ext_get{a b:St}(h1:a.tm.length=b.tm.length)(h2:∀ t<a.tm.length,a.get t=b.get t)(h3:a.hp=b.hp)(h4:a.ct=b.ct):a=b:=by
 obtain ⟨ta,ha,ca⟩:=a;obtain ⟨tb,hb,cb⟩:=b;simp only[] at h1 h2 h3 h4;subst h3;subst h4;have:ta=tb:=by
  apply List.ext_getElem? ;intro t;rcases Nat.lt_or_ge t ta.length with hlt|hge
  ·have:=h2 t hlt
   simp only[St.get,List.getD_eq_getElem?_getD] at this;rw[List.getElem?_eq_getElem hlt,List.getElem?_eq_getElem (h1 ▸ hlt)] at this ⊢;simpa using this
  ·rw[List.getElem?_eq_none hge,List.getElem?_eq_none (h1 ▸ hge)]
 rw[this]
end
def okOrd(ops:Array Oper)(md:Region.Mode):List Nat→List Nat→Bool
  |seen,[]=>(List.range ops.size).all fun i=>seen.contains i
  |seen,i::l=>(match ops[i]? with|some o=>o.after.toList.all fun e=>!Region.binds md e||seen.contains e.on|none=>false)&&okOrd ops md (i::seen) l
def okModes(ops:Array Oper):Bool:=[Region.Mode.any,.text,.gc].all fun md=>okOrd ops md [] (Region.linearise md ops 0)
def okPre(ops:Array Oper)(pre:List (List Nat)):Bool :=
  (List.range ops.size).all fun i=>match ops[i]?,pre[i]? with
    |some o,some p=>p.all fun j=>o.after.toList.any fun e=>Region.binds .any e&&(e.on==j||preHas pre e.on j)
    |_,_=>false
def isGal(t:Nat):Ins→Bool
  |.op _ _ (.galloc _ t')=>t'==t
  |_=>false
def isGst:Ins→Bool
  |.op _ _ (.gsto ..)=>true
  |_=>false
def galAt(n t:Nat):Ins→Bool
  |.op none none (.galloc n' t')=>n'==n&&t'==t
  |_=>false
def okGal(P:Program)(t n:Nat)(o:Oper):Bool:=o.dst==some t&&o.guard.isNone&&match o.op with|.alloc ty=>galT P ty n|_=>false
def okGst(P:Program)(t n:Nat)(y:Opd)(o:Oper):Bool:=o.dst.isNone&&o.guard.isNone&&match o.op with|.store ty (.tmp t') x=>t'==t&&okOpd x y&&(tyOk P ty n true||tyOk P ty n false)|_=>false
def okGIns(P:Program)(ops:Array Oper)(l:List Ins)(pre:List (List Nat))(i:Nat)(x:Ins):Bool :=
  okIns P ops i x||(match x,ops[i]? with
    |.op none none (.galloc n t),some o=>okGal P t n o&&l.any (fun y=>y.dst==some t&&isGst y)&&(List.range l.length).all fun j=>j==i||(match l[j]? with|some y=>!isGal t y|none=>true)
    |.op (some t) none (.gsto n y),some o=>okGst P t n y o&&(List.range l.length).any fun j=>preHas pre i j&&(match l[j]? with|some y=>galAt n t y|none=>false)
    |_,_=>false)
def okDraw(P:Program)(ops:Array Oper)(l:List Ins)(pre:List (List Nat)):Bool :=
  okModes ops&&l.length==ops.size&&drawStatic l pre&&okPre ops pre&&(List.range l.length).all fun i=>match l[i]? with|some x=>okGIns P ops l pre i x|none=>false
theorem okIns_ord{P:Program}{ops:Array Oper}{i:Nat}{x:Ins}(h:okIns P ops i x=true):(∀ t,isGal t x=false)∧isGst x=false:=by
 cases x with
 |kill=>exact ⟨fun _=>rfl,rfl⟩
 |frz=>exact ⟨fun _=>rfl,rfl⟩
 |op d g k =>
  unfold okIns at h;cases k
  case galloc n t =>
   simp only at h;split at h
   ·rename_i o _
    simp only[Bool.and_eq_true] at h;have h2:=h.2;unfold okK at h2;split at h2<;>simp_all
   ·simp at h
  case gsto n y =>
   simp only at h;split at h
   ·rename_i o _
    simp only[Bool.and_eq_true] at h;have h2:=h.2;unfold okK at h2;split at h2<;>simp_all
   ·simp at h
  all_goals exact ⟨fun _=>rfl,rfl⟩
theorem okG_cases{P:Program}{ops:Array Oper}{l:List Ins}{pre:List (List Nat)}{i:Nat}{x:Ins}(h:okGIns P ops l pre i x=true) :
  okIns P ops i x=true ∨
  (∃ n t o ty,x=.op none none (.galloc n t)∧ops[i]?=some o∧o.dst=some t∧o.guard=none∧o.op=.alloc ty∧galT P ty n=true∧(∃ (j:Nat) (y:Ins),l[j]?=some y∧y.dst=some t∧isGst y=true)∧∀ (j:Nat) (y:Ins),l[j]?=some y→isGal t y=true→j=i) ∨
  (∃ n t y o ty x' agg j,x=.op (some t) none (.gsto n y)∧ops[i]?=some o∧o.dst=none∧o.guard=none∧o.op=.store ty (.tmp t) x'∧okOpd x' y=true∧tyOk P ty n agg=true∧preHas pre i j=true∧l[j]?=some (.op none none (.galloc n t))):=by
 unfold okGIns at h;rw[Bool.or_eq_true] at h;rcases h with h|h
 ·exact .inl h
 ·split at h
  ·rename_i n t o ho
   simp only[Bool.and_eq_true,okGal,beq_iff_eq,Option.isNone_iff_eq_none,List.any_eq_true,List.all_eq_true,List.mem_range,Bool.or_eq_true] at h;obtain ⟨⟨⟨⟨h1,h2⟩,h3⟩,⟨y,h4,h5⟩⟩,h6⟩:=h;split at h3
   ·rename_i ty hop
    obtain ⟨j,hj⟩:=List.mem_iff_getElem?.1 h4;refine .inr (.inl ⟨n,t,o,ty,rfl,ho,h1,h2,hop,h3,⟨j,y,hj,h5.1,h5.2⟩,fun j y hj hg=>?_⟩)
    have:=h6 j (List.getElem?_eq_some_iff.1 hj).1
    rcases this with r|r
    ·exact r
    ·rw[hj] at r;simp[hg] at r
   ·simp at h3
  ·rename_i t n y o ho
   simp only[Bool.and_eq_true,okGst,Option.isNone_iff_eq_none,List.any_eq_true,List.mem_range] at h;obtain ⟨⟨⟨h1,h2⟩,h3⟩,⟨j,hj,h4,h5⟩⟩:=h;split at h3
   ·rename_i ty t' x' hop
    simp only[Bool.and_eq_true,beq_iff_eq,Bool.or_eq_true] at h3;obtain ⟨⟨rfl,h6⟩,h7⟩:=h3;split at h5
    ·rename_i z hz
     unfold galAt at h5;split at h5
     ·rename_i n' t''
      simp only[Bool.and_eq_true,beq_iff_eq] at h5;obtain ⟨rfl,rfl⟩:=h5;rcases h7 with h7|h7
      ·exact .inr (.inr ⟨_,_,y,o,ty,x',true,j,rfl,ho,h1,h2,hop,h6,h7,h4,hz⟩)
      ·exact .inr (.inr ⟨_,_,y,o,ty,x',false,j,rfl,ho,h1,h2,hop,h6,h7,h4,hz⟩)
     ·simp at h5
    ·simp at h5
   ·simp at h3
  ·simp at h
def pen(l:List Ins)(S:Nat→Bool)(t n:Nat):Prop:=(∃ (i:Nat) (d:Option Nat) (g:Option (Nat×Bool)),l[i]?=some (.op d g (.galloc n t))∧S i=true)∧∀ (j:Nat) (x:Ins),l[j]?=some x→x.dst=some t→S j=false
structure Pd(X:Cx)(l:List Ins)(S:Nat→Bool)(H:Nat→Option Obj)(a:Act)(z:Nat):Prop where
  base:∀ c o,X.H c=some o→H c=some o
  at_:∀ t n,pen l S t n→∃ c cs e,a.tmps.getD t undef=.pointer (some ⟨c,0,none⟩)∧X.H c=none∧H c=some (.cells cs e (0,0))∧cs.size=n∧z≤c
  inj:∀ t n t' n' c,pen l S t n→pen l S t' n'→a.tmps.getD t undef=.pointer (some ⟨c,0,none⟩)→a.tmps.getD t' undef=.pointer (some ⟨c,0,none⟩)→t=t'
  back:∀ c o,H c=some o→X.H c=some o∨∃ t n,pen l S t n∧a.tmps.getD t undef=.pointer (some ⟨c,0,none⟩)
section
variable {P:Program} {X:Cx} {G:Nat→List IV} {R:Run} {l:List Ins} {pre:List (List Nat)} {s0:St} {ss:List St} {hs:List (Heap×Nat)}
theorem binds_any{md:Region.Mode}{e:Edge}(h:Region.binds .any e=true):Region.binds md e=true:=by
 unfold Region.binds at h ⊢;split<;>simp_all
theorem draw_ord{ops:Array Oper}{md:Region.Mode}{listed:Array Bool}(hr:Region.ready md ops listed=[])(hsz:listed.size=ops.size):∀ (l seen:List Nat),okOrd ops md seen l=true→(∀ j∈seen,listed.getD j false=true)→∀ i,i<ops.size→listed.getD i false=true
 |[],seen,h,hs,i,hi=>by
  simp only[okOrd,List.all_eq_true,List.mem_range] at h
  exact hs i (by simpa using h i hi)
 |k::l,seen,h,hs,i,hi=>by
  simp only[okOrd,Bool.and_eq_true] at h
  refine draw_ord hr hsz l (k::seen) h.2 (fun j hj=>?_) i hi
  rcases List.mem_cons.1 hj with rfl|hj
  ·have h1:=h.1
   split at h1
   ·rename_i o ho
    cases hq:listed.getD j false with
    |true=>rfl
    |false =>
     have:j∈Region.ready md ops listed:=mem_ready.2 ⟨by
       have hlt:j<listed.size:=hsz ▸ (Array.getElem?_eq_some_iff.1 ho).1
       simp[Array.getD,hlt] at hq ⊢
       exact hq,o,ho,fun e he hb=>by
       simp only[List.all_eq_true,Bool.or_eq_true,Bool.not_eq_true'] at h1
       have:=(h1 e (by simpa using he)).resolve_left (by simp[hb])
       exact hs e.on (by simpa using this)⟩
     rw[hr] at this
     simp at this
   ·simp at h1
  ·exact hs j hj
theorem draw_all{ops:Array Oper}(hm:okModes ops=true){md:Region.Mode}{listed:Array Bool}(hr:Region.ready md ops listed=[])(hsz:listed.size=ops.size):∀ i,i<ops.size→listed.getD i false=true:=by
 simp only[okModes,List.all_cons,List.all_nil,Bool.and_true,Bool.and_eq_true] at hm;cases md with
 |any=>exact draw_ord hr hsz _ [] hm.1 (by simp)
 |text=>exact draw_ord hr hsz _ [] hm.2.1 (by simp)
 |gc=>exact draw_ord hr hsz _ [] hm.2.2 (by simp)
theorem draw_go(hR:RunOk P G R)(hG:GOk X G){ops:Array Oper}(hk:okDraw P ops l pre=true)(C:Canon G R l s0 ss hs)(hdyn:drawDyn G R l pre ss hs=true){Q:Exit→Act→World→Prop}{sn:St}(hn:ss[l.length]?=some sn)(md:Region.Mode){E0:Env}
  (hQ:∀ E' a',Rel X E' sn a'→Ext X E0 E'→E0.w.heap.size≤E'.w.heap.size→Q .normal a' E'.w) :
  ∀ (fuel:Nat) (listed:Array Bool) (s:St) (E:Env) (a:Act) (H:Nat→Option Obj),listed.size=ops.size→At G R l s0 ss hs (fun j=>listed.getD j false) s →
   (∀ j k,listed.getD j false=true→preHas pre j k=true→listed.getD k false=true)→(List.range ops.size).countP (fun j=>!listed.getD j false)≤fuel→Rel (X.hide H) E s a →
   Pd X l (fun j=>listed.getD j false) H a E0.w.heap.size→Ext X E0 E→E0.w.heap.size≤E.w.heap.size→wpAny P md ops Q fuel listed a E.w:=by
 simp only[okDraw,Bool.and_eq_true,beq_iff_eq,List.all_eq_true,List.mem_range] at hk;obtain ⟨⟨⟨⟨hmodes,hlen⟩,hst⟩,hpre⟩,hins⟩:=hk;have D:=Draw.of hst;have okG:∀ (i:Nat) (x:Ins),l[i]?=some x→okGIns P ops l pre i x=true:=fun i x hx=>by
  have:=hins i (List.getElem?_eq_some_iff.1 hx).1
  rw[hx] at this;exact this
 have gst_of:∀ (i n t:Nat) (d:Option Nat) (g:Option (Nat×Bool)),l[i]?=some (.op d g (.galloc n t))→d=none∧(∃ (j:Nat) (y:Ins),l[j]?=some y∧y.dst=some t∧isGst y=true)∧∀ (j:Nat) (y:Ins),l[j]?=some y→isGal t y=true→j=i:=fun i n t d g hi=>by
  rcases okG_cases (okG i _ hi) with h|⟨n',t',o,ty,h1,_,_,_,_,_,h2,h3⟩|⟨n',t',y,o,ty,x',agg,j,h1,_⟩
  ·have:=(okIns_ord h).1 t
   simp[isGal] at this
  ·injection h1 with h1 _ h4
   injection h4 with _ h4;subst h4;exact ⟨h1,h2,h3⟩
  ·injection h1 with _ _ h4
   simp at h4
 have done:∀ (listed:Array Bool) (s:St) (H:Nat→Option Obj) (a:Act) (E:Env),listed.size=ops.size→At G R l s0 ss hs (fun j=>listed.getD j false) s→Region.ready md ops listed=[]→Rel (X.hide H) E s a→Pd X l (fun j=>listed.getD j false) H a E0.w.heap.size→Rel X E sn a:=by
  intro listed s H a E hsz hA hr hrel hpd;have all:=draw_all hmodes hr hsz;have An:=C.at_ D l.length sn (Nat.le_refl _) hn;have lt_of:∀ (j:Nat) (x:Ins),l[j]?=some x→j<l.length:=fun j x h=>(List.getElem?_eq_some_iff.1 h).1;have em:cntS l (fun j=>listed.getD j false)=cntS l (ltS l.length):=cntS_congr fun j hj=>by
   have hj:j<l.length:=by
    unfold turnAt at hj;split at hj
    ·rename_i x hx;exact lt_of j x hx
    ·simp at hj
   show listed.getD j false=ltS l.length j;rw[all j (hlen ▸ hj)];simp[ltS,hj]
  have m:=hA.mem;rw[em,An.mem] at m;simp at m;have hs:s=sn:=by
   refine St.ext_get (hA.len.trans An.len.symm) (fun t ht=>?_) m.1.symm m.2.symm;by_cases hex:∃ (j:Nat) (x:Ins),l[j]?=some x∧x.dst=some t
   ·obtain ⟨j,x,hx,hd⟩:=hex
    rw[hA.on j x t (all j (hlen ▸ lt_of j x hx)) hx hd (hA.len ▸ ht),An.on j x t (by simp[ltS,lt_of j x hx]) hx hd (hA.len ▸ ht)]
   ·rw[hA.off t fun j' x' _ hx' e'=>hex ⟨j',x',hx',e'⟩,An.off t fun j' x' _ hx' e'=>hex ⟨j',x',hx',e'⟩]
  have hno:∀ t n,¬ pen l (fun j=>listed.getD j false) t n:=by
   rintro t n ⟨⟨i,d,g,hi,_⟩,h2⟩;obtain ⟨_,⟨j,y,hj,hd,_⟩,_⟩:=gst_of i n t d g hi;have:listed.getD j false=false:=h2 j y hj hd;rw[all j (hlen ▸ lt_of j y hj)] at this;simp at this
  have hH:H=X.H:=by
   funext c;cases hc:H c with
   |none =>
    cases hx:X.H c with
    |none=>rfl
    |some o=>rw[hpd.base c o hx] at hc;simp at hc
   |some o =>
    rcases hpd.back c o hc with h|⟨t,n,h,_⟩
    ·exact h.symm
    ·exact absurd h (hno t n)
  subst hH;subst hs;exact hrel
 intro fuel;induction fuel with
 |zero =>
  intro listed s E a H hsz hA hc hf hr hpd hE hz;have hrd:Region.ready md ops listed=[]:=by
   rw[List.eq_nil_iff_forall_not_mem];intro i hi;obtain ⟨h0,o,ho,_⟩:=mem_ready.1 hi;have hlt:i<ops.size:=(Array.getElem?_eq_some_iff.1 ho).1
   have:=List.countP_eq_zero.1 (Nat.le_zero.1 hf) i (List.mem_range.2 hlt)
   have hlt2:i<listed.size:=hsz ▸ hlt;simp[Array.getD,hlt2] at this h0;rw[h0] at this;simp at this
  exact ⟨hrd,hQ E a (done listed s H a E hsz hA hrd hr hpd) hE hz⟩
 |succ fuel ih =>
  intro listed s E a H hsz hA hc hf hr hpd hE hz;refine ⟨fun hrd=>hQ E a (done listed s H a E hsz hA hrd hr hpd) hE hz,fun i hi=>?_⟩;obtain ⟨h0,o,ho,hedge⟩:=mem_ready.1 hi;have hlt:i<ops.size:=(Array.getElem?_eq_some_iff.1 ho).1;have hlt2:i<listed.size:=hsz ▸ hlt;have hS:listed.getD i false=false:=by simp[Array.getD,hlt2] at h0 ⊢;exact h0
  obtain ⟨x,hx⟩:∃ x,l[i]?=some x:=⟨l[i],by simp[hlen,hlt]⟩;have hp:∀ k,preHas pre i k=true→listed.getD k false=true:=by
   intro k hk;simp only[okPre,List.all_eq_true,List.mem_range] at hpre;have h:=hpre i hlt;split at h
   ·rename_i o' p ho' hp'
    rw[ho] at ho';simp at ho';subst ho';simp only[Bool.and_eq_true,List.all_eq_true,List.any_eq_true] at h;obtain ⟨e,he,hb⟩:=h k (by simpa[preHas,hp'] using hk);simp only[Bool.or_eq_true,beq_iff_eq] at hb;have hon:=hedge e (by simpa using he) (binds_any hb.1);rcases hb.2 with rfl|hb2
    ·exact hon
    ·exact hc e.on k hon hb2
   ·simp at h
  obtain ⟨s',hs',hA'⟩:=hA.step D C hdyn (fun j k hj hk=>hc j k hj hk) hS hp hx;have hupd:(fun j=>(listed.setIfInBounds i true).getD j false)=updS (fun j=>listed.getD j false) i:=by
   funext j;by_cases e:i=j
   ·subst e;simp[updS,hlt2]
   ·rw[getD_set_ne false e]
    have:(j==i)=false:=by simp;exact fun h=>e h.symm
    simp[updS,this]
  have hc':∀ j k,(listed.setIfInBounds i true).getD j false=true→preHas pre j k=true→(listed.setIfInBounds i true).getD k false=true:=by
   intro j k hj hk;by_cases e:i=j
   ·subst e;exact getD_set_true (hp k hk)
   ·rw[getD_set_ne false e] at hj
    exact getD_set_true (hc j k hj hk)
  have hf':(List.range ops.size).countP (fun j=>!(listed.setIfInBounds i true).getD j false)≤fuel:=by
   have e3:(fun j=>!(listed.setIfInBounds i true).getD j false)=fun j=>!(updS (fun j=>listed.getD j false) i j):=by
    funext j;rw[← congrFun hupd j]
   rw[e3];have e2:=countP_upd (fun j=>!updS (fun j=>listed.getD j false) i j) (fun _=>true) i (by simp[updS]) ops.size;have e4:(fun j=>updS (fun j=>!updS (fun j=>listed.getD j false) i j) i j&&true)=fun j=>!listed.getD j false:=by
    funext j;by_cases e:j=i
    ·subst e;simp only[updS,hS];simp
    ·have:(j==i)=false:=by simp[e]
     simp only[updS,this];simp
   rw[e4] at e2;simp only[hlt,Bool.and_true,and_self,if_true] at e2;omega
  have upd_ne:∀ j,updS (fun j=>listed.getD j false) i j=true→j≠i→listed.getD j false=true:=fun j hj hne=>by
   have:(j==i)=false:=by simp[hne]
   simpa[updS,this] using hj
  have upd_false:∀ j,updS (fun j=>listed.getD j false) i j=false→listed.getD j false=false:=fun j hj=>by
   simp only[updS,Bool.or_eq_false_iff] at hj;exact hj.1
  have upd_of:∀ j,listed.getD j false=true→updS (fun j=>listed.getD j false) i j=true:=fun j hj=>by simp[updS,hj]
  have upd_off:∀ j,listed.getD j false=false→j≠i→updS (fun j=>listed.getD j false) i j=false:=fun j hj hne=>by simp[updS,hj,hne]
  have hidlt:∀ c o,H c=some o→c<E.w.heap.size:=fun c o hc=>(Array.getElem?_eq_some_iff.1 (hr.wr.hid c o hc).1).1;rcases okG_cases (okG i x hx) with hok|⟨n,t,o',ty,rfl,ho',hd,hg,hop,hzr,hgst,huni⟩|⟨n,t,y,o',ty,x',agg,j1,rfl,ho',hd,hg,hop,hxo,hty,hpj,hj1⟩
  ·obtain ⟨d,g,k,rfl⟩:=D.op i x hx
   obtain ⟨hng,hns⟩:=okIns_ord hok;have hne:∀ t n,pen l (fun j=>listed.getD j false) t n→d≠some t:=by
    rintro t n ⟨⟨i',d',g',hi',_⟩,_⟩ rfl;obtain ⟨_,⟨j,y,hj,hd,hy⟩,_⟩:=gst_of i' n t d' g' hi'
    have:=D.dst i j _ _ t hx hj rfl hd
    subst this;rw[hx] at hj;have hj:=Option.some.inj hj;subst hj;rw[hns] at hy;simp at hy
   have hpen:∀ t n,pen l (updS (fun j=>listed.getD j false) i) t n→pen l (fun j=>listed.getD j false) t n:=by
    rintro t n ⟨⟨i',d',g',hi',h1⟩,h2⟩;refine ⟨⟨i',d',g',hi',upd_ne i' h1 ?_⟩,fun j x hj hd=>upd_false j (h2 j x hj hd)⟩;rintro rfl;rw[hx] at hi';have hi':=Option.some.inj hi'
    have:=hng t
    rw[hi'] at this;simp[isGal] at this
   refine ins_op (X:=X.hide H) hR hG hr hok hs' fun E' a' g1 g2 g3 g4=>?_;refine ih _ s' E' a' H (by simpa using hsz) (hupd ▸ hA') hc' hf' g1 ?_ (hE.transH g2 hz (fun c o hc=>?_) hpd.base) (Nat.le_trans hz g3)
   ·rw[hupd]
    refine ⟨hpd.base,fun t n h=>?_,fun t n t' n' c h h' e e'=>?_,fun c o hc=>?_⟩
    ·rw[g4 t (hne t n (hpen t n h))]
     exact hpd.at_ t n (hpen t n h)
    ·rw[g4 t (hne t n (hpen t n h))] at e
     rw[g4 t' (hne t' n' (hpen t' n' h'))] at e';exact hpd.inj t n t' n' c (hpen t n h) (hpen t' n' h') e e'
    ·rcases hpd.back c o hc with h|⟨t,n,h,e⟩
     ·exact .inl h
     ·refine .inr ⟨t,n,⟨?_,fun j x hj hd=>upd_off j (h.2 j x hj hd) ?_⟩,by rw[g4 t (hne t n h)];exact e⟩
      ·obtain ⟨i',d',g',h1,h2⟩:=h.1
       exact ⟨i',d',g',h1,upd_of i' h2⟩
      ·rintro rfl
       rw[hx] at hj;have hj:=Option.some.inj hj;subst hj;exact hne t n h hd
   ·rcases hpd.back c o hc with h|⟨t,n,h,e⟩
    ·exact .inl h
    ·obtain ⟨c',cs,e',h1,h2,h3,h4,h5⟩:=hpd.at_ t n h
     rw[e] at h1;simp at h1;subst h1;exact .inr h5
  ·have hs2:t<s.tm.length∧s.get t=.und∧s'=s:=by
    simp only[insI,insV,want,opK,step] at hs';by_cases hlt3:t<s.tm.length
    ·simp only[if_pos hlt3] at hs'
     cases hq:s.get t with
     |und =>
      rw[hq] at hs';simp only[Option.some.injEq] at hs';exact ⟨hlt3,rfl,hs'.symm⟩
     |_=>rw[hq] at hs';simp at hs'
    ·simp[if_neg hlt3] at hs'
   obtain ⟨hlt3,hu,rfl⟩:=hs2;have hpre':∀ (j:Nat) (x:Ins),l[j]?=some x→x.dst=some t→listed.getD j false=false:=by
    intro j x hj hdx;cases hq:listed.getD j false with
    |false=>rfl
    |true =>
     exfalso;obtain ⟨j0,y0,hj0,hd0,hy0⟩:=hgst
     have:=D.dst j j0 x y0 t hj hj0 hdx hd0
     subst this;rw[hj] at hj0;have hj0:=Option.some.inj hj0;subst hj0;rcases okG_cases (okG j x hj) with h|⟨n',t',o2,ty2,rfl,_⟩|⟨n',t',y,o2,ty2,x2,agg,j2,rfl,_,_,_,_,_,_,h3,h4⟩
     ·have:=(okIns_ord h).2
      rw[hy0] at this;simp at this
     ·simp[Ins.dst] at hdx
     ·have hdx:some t'=some t:=hdx
      injection hdx with hdx;subst hdx
      have:=huni j2 _ h4 (by simp[isGal])
      subst this
      have:=hc j _ hq h3
      rw[hS] at this;simp at this
   have hnp:∀ n',¬ pen l (fun j=>listed.getD j false) t n':=by
    rintro n' ⟨⟨i',d',g',hi',h1⟩,_⟩
    have:=huni i' _ hi' (by simp[isGal])
    subst this;simp only at h1;rw[hS] at h1;simp at h1
   have hpen:∀ t' n',pen l (updS (fun j=>listed.getD j false) i) t' n'→(t'≠t∧pen l (fun j=>listed.getD j false) t' n')∨(t'=t∧n'=n):=by
    rintro t' n' ⟨⟨i',d',g',hi',h1⟩,h2⟩;by_cases e:t'=t
    ·subst e
     have:=huni i' _ hi' (by simp[isGal])
     subst this;rw[hx] at hi';have hi':=Option.some.inj hi';injection hi' with _ _ h3
     injection h3 with h3 _;exact .inr ⟨rfl,h3.symm⟩
    ·refine .inl ⟨e,⟨i',d',g',hi',upd_ne i' h1 ?_⟩,fun j x hj hd=>upd_false j (h2 j x hj hd)⟩
     rintro rfl;rw[hx] at hi';have hi':=Option.some.inj hi';injection hi' with _ _ h3
     injection h3 with _ h3;exact e h3.symm
   refine gal_op hr ho' hg hd hop hzr hu fun cs e E' hE' hcs hheap g1=>?_;have hsz':E'.w.heap.size=E.w.heap.size+1:=by rw[hheap];simp
   have hpush:∀ k,k<E.w.heap.size→E'.w.heap[k]?=E.w.heap[k]?:=fun k hk=>by rw[hheap,Array.getElem?_push,if_neg (by omega)]
   have htn:(a.put (some t) (.pointer (some ⟨E.w.heap.size,0,none⟩))).tmps.getD t undef=.pointer (some ⟨E.w.heap.size,0,none⟩):=by
    have:t<a.tmps.size:=by rw[hr.tr.size];exact hlt3
    simp[Act.put,Array.getD,this]
   have hto:∀ t',t'≠t→(a.put (some t) (.pointer (some ⟨E.w.heap.size,0,none⟩))).tmps.getD t' undef=a.tmps.getD t' undef:=fun t' ht=>put_ne fun e=>ht (Option.some.inj e).symm;have hXn:X.H E.w.heap.size=none:=by
    cases hq:X.H E.w.heap.size with
    |none=>rfl
    |some o=>exact absurd (hidlt _ _ (hpd.base _ o hq)) (Nat.lt_irrefl _)
   refine ih _ s' E' _ _ (by simpa using hsz) (hupd ▸ hA') hc' hf' g1 ?_ (hE.stepH (by rw[hE']) (by rw[hE']) (by rw[hE']) (fun c hc=>hpush c ?_) fun c hc=>hpush c (Nat.lt_of_lt_of_le hc hz)) (by omega)
   ·rw[hupd]
    refine ⟨fun c o hc=>?_,fun t' n' h=>?_,fun t1 n1 t2 n2 c h1 h2 e1 e2=>?_,fun c o hc=>?_⟩
    ·have:=hidlt c o (hpd.base c o hc)
     simp only[if_neg (show ¬ c=E.w.heap.size by omega)];exact hpd.base c o hc
    ·rcases hpen t' n' h with ⟨hne,h⟩|⟨rfl,rfl⟩
     ·obtain ⟨c,cs,e,h1,h2,h3,h4,h5⟩:=hpd.at_ t' n' h
      have:=hidlt c _ h3
      refine ⟨c,cs,e,by rw[hto t' hne];exact h1,h2,?_,h4,h5⟩;simp only[if_neg (show ¬ c=E.w.heap.size by omega)];exact h3
     ·exact ⟨E.w.heap.size,cs,e,htn,hXn,by simp,hcs,hz⟩
    ·have old:∀ t' n',t'≠t→pen l (fun j=>listed.getD j false) t' n'→(a.put (some t) (.pointer (some ⟨E.w.heap.size,0,none⟩))).tmps.getD t' undef≠.pointer (some ⟨E.w.heap.size,0,none⟩):=by
      intro t' n' hne h e;rw[hto t' hne] at e;obtain ⟨c,cs,e',h1,h2,h3,h4,h5⟩:=hpd.at_ t' n' h;rw[h1] at e;simp at e
      have:=hidlt c _ h3
      omega
     rcases hpen t1 n1 h1 with ⟨hne1,k1⟩|⟨rfl,rfl⟩
     ·rcases hpen t2 n2 h2 with ⟨hne2,k2⟩|⟨rfl,rfl⟩
      ·rw[hto t1 hne1] at e1
       rw[hto t2 hne2] at e2;exact hpd.inj t1 n1 t2 n2 c k1 k2 e1 e2
      ·rw[htn] at e2
       rw[← e2] at e1;exact absurd e1 (old t1 n1 hne1 k1)
     ·rcases hpen t2 n2 h2 with ⟨hne2,k2⟩|⟨rfl,rfl⟩
      ·rw[htn] at e1
       rw[← e1] at e2;exact absurd e2 (old t2 n2 hne2 k2)
      ·rfl
    ·by_cases e:c=E.w.heap.size
     ·refine .inr ⟨t,n,⟨⟨i,none,none,hx,by simp[updS]⟩,fun j x hj hd=>upd_off j (hpre' j x hj hd) ?_⟩,by rw[e];exact htn⟩
      rintro rfl;rw[hx] at hj;have hj:=Option.some.inj hj;subst hj;simp[Ins.dst] at hd
     ·simp only[if_neg e] at hc
      rcases hpd.back c o hc with h|⟨t',n',h,e'⟩
      ·exact .inl h
      ·have hne:t'≠t:=fun e=>hnp n' (e ▸ h)
       refine .inr ⟨t',n',⟨?_,fun j x hj hd=>upd_off j (h.2 j x hj hd) ?_⟩,by rw[hto t' hne];exact e'⟩
       ·obtain ⟨i',d',g',h1,h2⟩:=h.1
        exact ⟨i',d',g',h1,upd_of i' h2⟩
       ·rintro rfl
        rw[hx] at hj;have hj:=Option.some.inj hj;subst hj;simp[Ins.dst] at hd
   ·obtain ⟨b,h1,h2⟩:=hc
    obtain ⟨y,hy⟩:=Option.isSome_iff_exists.1 h1
    have:=hr.wr.lt hy
    omega
  ·have hSj:listed.getD j1 false=true:=hp j1 hpj
   have hpt:pen l (fun j=>listed.getD j false) t n:=by
    refine ⟨⟨j1,none,none,hj1,hSj⟩,fun j x hj hdx=>?_⟩
    have:=D.dst j i x _ t hj hx hdx rfl
    subst this;exact hS
   obtain ⟨c,cs,e,h1,h2,h3,h4,h5⟩:=hpd.at_ t n hpt;have hs2:∃ w is,ev s y=.v w∧w.cells.length=n∧traverse cellI w.cells=some is∧s'=s.put (some t) (V (.lp 0 is)):=by
    simp only[insI,insV,want,opK,step] at hs';cases hq:ev s y with
    |v w =>
     rw[hq] at hs';by_cases hl:w.cells.length=n
     ·simp only[if_pos hl] at hs'
      cases hi:traverse cellI w.cells with
      |none=>rw[hi] at hs';simp at hs'
      |some is =>
       rw[hi] at hs';simp only[Option.some.injEq] at hs';exact ⟨w,is,rfl,hl,hi,hs'.symm⟩
     ·simp[if_neg hl] at hs'
    |_=>rw[hq] at hs';simp at hs'
   obtain ⟨w,is,hy,hwl,hwi,rfl⟩:=hs2;have hpen:∀ t' n',pen l (updS (fun j=>listed.getD j false) i) t' n'→t'≠t∧pen l (fun j=>listed.getD j false) t' n':=by
    rintro t' n' ⟨⟨i',d',g',hi',k1⟩,k2⟩;refine ⟨?_,⟨i',d',g',hi',upd_ne i' k1 ?_⟩,fun j x hj hd=>upd_false j (k2 j x hj hd)⟩
    ·rintro rfl
     have:=k2 i _ hx rfl
     simp[updS] at this
    ·rintro rfl
     rw[hx] at hi';have hi':=Option.some.inj hi';injection hi' with _ _ h3
     simp at h3
   refine gst_op hr ho' hg hd hop hxo hty h1 h3 h4 hy hwl hwi fun E' k1 k2 k3 k4 k5 k6 k7 k8=>?_;refine ih _ _ E' a _ (by simpa using hsz) (hupd ▸ hA') hc' hf' k8 ?_ (hE.stepH k1 k2 k3 (fun k hk=>k4 k fun e=>k6 (e ▸ hk)) fun k hk=>k4 k (by omega)) (by omega);rw[hupd];refine ⟨fun c' o hc'=>?_,fun t' n' h=>?_,fun t1 n1 t2 n2 c r1 r2 e1 e2=>?_,fun c' o hc'=>?_⟩
   ·have:c'≠c:=by rintro rfl;rw[h2] at hc';simp at hc'
    simp only[if_neg this];exact hpd.base c' o hc'
   ·obtain ⟨hne,h⟩:=hpen t' n' h
    obtain ⟨c',cs',e',q1,q2,q3,q4,q5⟩:=hpd.at_ t' n' h;have:c'≠c:=by
     rintro rfl;exact hne (hpd.inj t' n' t n c' h hpt q1 h1)
    refine ⟨c',cs',e',q1,q2,?_,q4,q5⟩;simp only[if_neg this];exact q3
   ·exact hpd.inj t1 n1 t2 n2 c (hpen t1 n1 r1).2 (hpen t2 n2 r2).2 e1 e2
   ·by_cases e0:c'=c
    ·simp[e0] at hc'
    ·simp only[if_neg e0] at hc'
     rcases hpd.back c' o hc' with h|⟨t',n',h,e'⟩
     ·exact .inl h
     ·have hne:t'≠t:=by
       rintro rfl;rw[h1] at e';exact e0 (by simpa using e'.symm)
      refine .inr ⟨t',n',⟨?_,fun j x hj hd=>upd_off j (h.2 j x hj hd) ?_⟩,e'⟩
      ·obtain ⟨i',d',g',q1,q2⟩:=h.1
       exact ⟨i',d',g',q1,upd_of i' q2⟩
      ·rintro rfl
       rw[hx] at hj;have hj:=Option.some.inj hj;subst hj;have hd:some t=some t':=hd;exact hne (Option.some.inj hd).symm
theorem draw_sound(hR:RunOk P G R)(hG:GOk X G){ops:Array Oper}(hk:okDraw P ops l pre=true){s s':St}(ht:trail G R l s=some (ss,hs))(hdyn:drawDyn G R l pre ss hs=true)(hl:ss.getLast?=some s'){Q:Exit→Act→World→Prop}{E:Env}{a:Act}(hr:Rel X E s a){id:Nat}
  (hQ:∀ E' a',Rel X E' s' a'→Ext X E E'→E.w.heap.size≤E'.w.heap.size→Q .normal a' E'.w):(Code.region id ops true).wp P Q a E.w:=by
 have hk':=hk;simp only[okDraw,Bool.and_eq_true,beq_iff_eq,List.all_eq_true,List.mem_range] at hk';obtain ⟨⟨⟨⟨hm,hlen⟩,hst⟩,hpre⟩,hins⟩:=hk';have D:=Draw.of hst;have C:=Canon.of (fun x hx=>by
  obtain ⟨i,hi⟩:=List.mem_iff_getElem?.1 hx;obtain ⟨d,g,k,rfl⟩:=D.op i x hi;rfl) ht
 have hx:Ext X E {E with w:={E.w with drawn:=E.w.drawn+1}} :=
  ⟨Nat.le_refl _,fun _ _ _ h=>⟨h,rfl,fun cc e fr h=>⟨cc,e,fr,h,rfl⟩⟩,fun _ _ _ h=>⟨h,rfl⟩⟩
 have hE:Rel X {E with w:={E.w with drawn:=E.w.drawn+1}} s a :=
  ⟨hr.h,hr.ct,⟨fun b x h=>⟨(hr.wr.blk b x h).1.ext hx rfl rfl,(hr.wr.blk b x h).2⟩,hr.wr.inj,hr.wr.size,hr.wr.still,hr.wr.os,hr.wr.tape,hr.wr.output,hr.wr.f1,hr.wr.a0,hr.wr.hid⟩,hr.tr.ext hx rfl⟩
 have hn:ss[l.length]?=some s':=by
  rw[List.getLast?_eq_getElem?,C.len] at hl;exact hl
 have key:∀ md t,wpOps P ops Q (Region.linearise md ops t) a {E.w with drawn:=E.w.drawn+1}:=fun md t=>by
  refine wpAny_sound ops.size t _ a _ (draw_go hR hG hk C hdyn hn md (E0:={E with w:={E.w with drawn:=E.w.drawn+1}}) (fun E' a' h1 h2 h3=>hQ E' a' h1 (hx.trans h2 (Nat.le_refl _)) h3) ops.size _ s {E with w:={E.w with drawn:=E.w.drawn+1}} a X.H (by simp) ?_ ?_ ?_ hE ?_ (Ext.refl X _) (Nat.le_refl _))
  ·refine ⟨rfl,fun j x t hj=>?_,fun _ _=>rfl,?_⟩
   ·simp[Array.getD,Array.getElem_replicate] at hj
   ·have:=C.mem 0 s (Nat.zero_le _) C.at0
    rw[← this];congr 1;apply cntS_congr;intro j _;simp[ltS,Array.getD,Array.getElem_replicate]
  ·intro j k hj
   simp[Array.getD,Array.getElem_replicate] at hj
  ·have:=List.countP_le_length (p:=fun j=>!(Array.replicate ops.size false).getD j false) (l:=List.range ops.size)
   simpa using this
  ·refine ⟨fun _ _ h=>h,fun t n h=>?_,fun t n t' n' c h=>?_,fun _ _ h=>.inl h⟩
   ·obtain ⟨⟨i,d,g,_,h⟩,_⟩:=h
    simp[Array.getD,Array.getElem_replicate] at h
   ·obtain ⟨⟨i,d,g,_,h⟩,_⟩:=h
    simp[Array.getD,Array.getElem_replicate] at h
 refine wp_region_draw fun t=>?_;unfold Region.schedule;split
 ·exact key _ _
 ·exact key _ _
end
end Go.Abs
/-
  The abstract machine,stepped through: what must hold before code so that something holds behind it.
-/
namespace Go.Abs
abbrev Sl:=Nat→AV
def upd(σ:Sl)(d:Nat)(v:AV):Sl:=fun t=>if t=d then v else σ t
def updO(σ:Sl)(d:Option Nat)(v:AV):Sl:=match d with|some d=>upd σ d v|none=>σ
def mkS(nt:Nat)(σ:Sl)(hp:Heap)(ct:Nat):St:={tm:=(List.range nt).map σ,hp:=hp,ct:=ct}
def evσ(nt:Nat)(σ:Sl):Opd→AV
  |.t n=>if n<nt then σ n else .und
  |.c v=>V v
  |.ca l=>.v (.agg (l.map I))
theorem upd_ne{σ:Sl}{d t:Nat}{v:AV}(h:t≠d):upd σ d v t=σ t:=by simp[upd,h]
section
variable {nt:Nat} {σ:Sl} {hp:Heap} {ct:Nat} {G:Nat→List IV} {R:Run}
theorem mkS_hp:(mkS nt σ hp ct).hp=hp:=rfl
theorem mkS_ct:(mkS nt σ hp ct).ct=ct:=rfl
theorem get_mk(n:Nat):(mkS nt σ hp ct).get n=if n<nt then σ n else .und:=by
 simp only[mkS,St.get,List.getD_eq_getElem?_getD,List.getElem?_map];split
 ·rename_i h;simp[List.getElem?_range h]
 ·rename_i h;simp[List.getElem?_eq_none (l:=List.range nt) (by simpa using Nat.le_of_not_lt h)]
theorem ev_mk(x:Opd):ev (mkS nt σ hp ct) x=evσ nt σ x:=by
 cases x<;>simp[ev,evσ,get_mk]
theorem with_mk(d:Option Nat)(r:AV×Heap×Nat):(mkS nt σ hp ct).with d r=mkS nt (updO σ d r.1) r.2.1 r.2.2:=by
 cases d with
 |none=>rfl
 |some d =>
  simp only[St.with,St.put,mkS,updO];congr 1;apply List.ext_getElem?;intro i;by_cases h:i=d
  ·subst h
   by_cases hi:i<nt
   ·rw[List.getElem?_set_self (by simpa using hi)]
    simp[List.getElem?_range hi,upd]
   ·rw[List.getElem?_eq_none (by simpa using Nat.le_of_not_lt hi),List.getElem?_eq_none (by simpa using Nat.le_of_not_lt hi)]
  ·rw[List.getElem?_set_ne (Ne.symm h)]
   by_cases hi:i<nt
   ·simp[List.getElem?_range hi,upd,h]
   ·rw[List.getElem?_eq_none (by simpa using Nat.le_of_not_lt hi),List.getElem?_eq_none (by simpa using Nat.le_of_not_lt hi)]
def wantσ(nt:Nat)(σ:Sl):Option (Nat×Bool)→Option Bool
  |none=>some true
  |some (t,b)=>match evσ nt σ (.t t) with
    |.v (.c (.r (.i (.bool c))))=>some (c==b)
    |.skp=>some false
    |_=>none
theorem want_mk(g:Option (Nat×Bool)):want (mkS nt σ hp ct) g=wantσ nt σ g:=by
 cases g with
 |none=>rfl
 |some p =>
  simp only[want,wantσ,get_mk,evσ];rfl
def pureCall(R:Run)(f:Nat)(as:List A1)(lent:Bool):Option (List A1) :=
  match R f as [] with
  |some (rs,h)=>traverse (back1 h [] lent) rs
  |none=>none
def wpX(G:Nat→List IV)(R:Run)(nt:Nat)(l:List Ins)(σ:Sl)(hp:Heap)(ct:Nat)(Q:Sl→Heap→Nat→Prop):Prop :=
  ∃ σ' hp' ct',insL G R l (mkS nt σ hp ct)=some (mkS nt σ' hp' ct')∧Q σ' hp' ct'
theorem wpX_nil{Q:Sl→Heap→Nat→Prop}(h:Q σ hp ct):wpX G R nt [] σ hp ct Q:=⟨σ,hp,ct,rfl,h⟩
theorem wpX_opG{Q:Sl→Heap→Nat→Prop}{d:Option Nat}{g:Option (Nat×Bool)}{k:K}{l:List Ins}{v:AV}{hp':Heap}{ct':Nat}(hg:wantσ nt σ g=some true)(hk:opK G R (mkS nt σ hp ct) (d.getD 0) k=some (v,hp',ct'))
  (h:wpX G R nt l (updO σ d v) hp' ct' Q):wpX G R nt (.op d g k::l) σ hp ct Q:=by
 obtain ⟨σ2,hp2,ct2,h1,h2⟩:=h;refine ⟨σ2,hp2,ct2,?_,h2⟩;simp only[insL,insI,insV,want_mk,hg,hk,with_mk];exact h1
theorem wpX_opF{Q:Sl→Heap→Nat→Prop}{d:Option Nat}{g:Option (Nat×Bool)}{k:K}{l:List Ins}(hg:wantσ nt σ g=some false)
  (h:wpX G R nt l (updO σ d .skp) hp ct Q):wpX G R nt (.op d g k::l) σ hp ct Q:=by
 obtain ⟨σ2,hp2,ct2,h1,h2⟩:=h;refine ⟨σ2,hp2,ct2,?_,h2⟩;simp only[insL,insI,insV,want_mk,hg,mkS_hp,mkS_ct,with_mk];exact h1
def wpE(G:Nat→List IV)(R:Run)(nt:Nat)(c:IR)(σ:Sl)(hp:Heap)(ct:Nat)(Q:Ex→Sl→Heap→Nat→Prop):Prop :=
  ∃ n ex σ' hp' ct',exec G R n c (mkS nt σ hp ct)=some (ex,mkS nt σ' hp' ct')∧Q ex σ' hp' ct'
theorem Run.le_refl(R:Run):R.le R:=fun _ _ _ _ h=>h
theorem wpE_mono{c:IR}{Q Q':Ex→Sl→Heap→Nat→Prop}(h:wpE G R nt c σ hp ct Q)(hQ:∀ ex σ hp ct,Q ex σ hp ct→Q' ex σ hp ct):wpE G R nt c σ hp ct Q':=by
 obtain ⟨n,ex,σ',hp',ct',h1,h2⟩:=h;exact ⟨n,ex,σ',hp',ct',h1,hQ _ _ _ _ h2⟩
theorem wpE_skip{Q:Ex→Sl→Heap→Nat→Prop}(h:Q .normal σ hp ct):wpE G R nt .skip σ hp ct Q:=⟨0,.normal,σ,hp,ct,rfl,h⟩
theorem wpE_ret{Q:Ex→Sl→Heap→Nat→Prop}(h:Q .ret σ hp ct):wpE G R nt .ret σ hp ct Q:=⟨0,.ret,σ,hp,ct,rfl,h⟩
theorem wpE_exit{i:Nat}{Q:Ex→Sl→Heap→Nat→Prop}(h:Q (.exit i) σ hp ct):wpE G R nt (.exit i) σ hp ct Q:=⟨0,.exit i,σ,hp,ct,rfl,h⟩
theorem wpE_reg{l:List Ins}{Q:Ex→Sl→Heap→Nat→Prop}(h:wpX G R nt l σ hp ct (Q .normal)):wpE G R nt (.reg l) σ hp ct Q:=by
 obtain ⟨σ',hp',ct',h1,h2⟩:=h;exact ⟨0,.normal,σ',hp',ct',by simp[exec,h1],h2⟩
def andThen(G:Nat→List IV)(R:Run)(nt:Nat)(b:IR)(Q:Ex→Sl→Heap→Nat→Prop):Ex→Sl→Heap→Nat→Prop
  |.normal,σ,hp,ct=>wpE G R nt b σ hp ct Q
  |ex,σ,hp,ct=>Q ex σ hp ct
theorem wpE_seq{a b:IR}{Q:Ex→Sl→Heap→Nat→Prop}(h:wpE G R nt a σ hp ct (andThen G R nt b Q)):wpE G R nt (.seq a b) σ hp ct Q:=by
 obtain ⟨n,ex,σ',hp',ct',h1,h2⟩:=h;cases ex with
 |normal =>
  obtain ⟨m,ex2,σ2,hp2,ct2,h3,h4⟩:=h2;refine ⟨max n m,ex2,σ2,hp2,ct2,?_,h4⟩;simp only[exec];rw[exec_mono R.le_refl (Nat.le_max_left n m) h1];exact exec_mono R.le_refl (Nat.le_max_right n m) h3
 |_=>exact ⟨n,_,σ',hp',ct',by simp only[exec,h1],h2⟩
theorem wpE_cond{x:Opd}{a b:IR}{Q:Ex→Sl→Heap→Nat→Prop}{p:Bool}(hx:evσ nt σ x=V (.bool p))(h1:p=true→wpE G R nt a σ hp ct Q)(h2:p=false→wpE G R nt b σ hp ct Q):wpE G R nt (.cond x a b) σ hp ct Q:=by
 cases p with
 |true =>
  obtain ⟨n,ex,σ',hp',ct',h3,h4⟩:=h1 rfl;exact ⟨n,ex,σ',hp',ct',by simp only[exec,ev_mk,hx,AV.bool,h3],h4⟩
 |false =>
  obtain ⟨n,ex,σ',hp',ct',h3,h4⟩:=h2 rfl;exact ⟨n,ex,σ',hp',ct',by simp only[exec,ev_mk,hx,AV.bool,h3],h4⟩
def inBlk(id:Nat)(Q:Ex→Sl→Heap→Nat→Prop):Ex→Sl→Heap→Nat→Prop
  |.exit i,σ,hp,ct=>Q (if i=id then .normal else .exit i) σ hp ct
  |ex,σ,hp,ct=>Q ex σ hp ct
theorem wpE_block{id:Nat}{a:IR}{Q:Ex→Sl→Heap→Nat→Prop}(h:wpE G R nt a σ hp ct (inBlk id Q)):wpE G R nt (.block id a) σ hp ct Q:=by
 obtain ⟨n,ex,σ',hp',ct',h1,h2⟩:=h;cases ex with
 |exit i=>exact ⟨n,_,σ',hp',ct',by simp only[exec,h1],h2⟩
 |_=>exact ⟨n,_,σ',hp',ct',by simp only[exec,h1],h2⟩
def again(I:Nat→Sl→Heap→Nat→Prop)(m:Nat)(Q:Ex→Sl→Heap→Nat→Prop):Ex→Sl→Heap→Nat→Prop
  |.normal,σ,hp,ct=>∃ m',m'<m∧I m' σ hp ct
  |ex,σ,hp,ct=>Q ex σ hp ct
theorem wpE_loop{a:IR}{Q:Ex→Sl→Heap→Nat→Prop}(I:Nat→Sl→Heap→Nat→Prop)(m:Nat)(h0:I m σ hp ct)(hs:∀ m σ hp ct,I m σ hp ct→wpE G R nt a σ hp ct (again I m Q)):wpE G R nt (.loop a) σ hp ct Q:=by
 have key:∀ (m:Nat) (σ:Sl) (hp:Heap) (ct:Nat),I m σ hp ct→∃ n ex σ' hp' ct',(∀ k,n≤k→loopN (exec G R k a) n (mkS nt σ hp ct)=some (ex,mkS nt σ' hp' ct'))∧Q ex σ' hp' ct':=by
  intro m;induction m using Nat.strongRecOn with
  |_ m ih =>
   intro σ hp ct hI;obtain ⟨n,ex,σ',hp',ct',h1,h2⟩:=hs m σ hp ct hI;cases ex with
   |normal =>
    obtain ⟨m',hlt,hI'⟩:=h2;obtain ⟨n2,ex2,σ2,hp2,ct2,h3,h4⟩:=ih m' hlt σ' hp' ct' hI';refine ⟨max n n2+1,ex2,σ2,hp2,ct2,fun k hk=>?_,h4⟩;simp only[loopN];rw[exec_mono R.le_refl (by omega:n≤k) h1];exact loopN_mono (fun s r h=>exec_mono R.le_refl (by omega:k≤k) h) (Nat.le_max_right n n2) (h3 k (by omega))
   |_ =>
    refine ⟨n+1,_,σ',hp',ct',fun k hk=>?_,h2⟩;simp only[loopN];rw[exec_mono R.le_refl (by omega:n≤k) h1]
 obtain ⟨n,ex,σ',hp',ct',h1,h2⟩:=key m σ hp ct h0;exact ⟨n,ex,σ',hp',ct',by simp only[exec];exact h1 n (Nat.le_refl _),h2⟩
end
/- A region that draws,where the order can tell nothing. -/
def K.memless:K→Bool
  |.mov ..|.pick ..|.fld ..|.idx ..|.idxS ..|.bin ..|.eqB ..|.eqv ..|.un ..|.cvI ..|.cvIS ..|.cvSS ..|.build ..|.slcS ..|.lenA ..|.mx ..|.mn ..|.ext ..|.galloc ..|.gsto ..=>true
  |.len ty _=>ty==0
  |_=>false
def Ins.memless:Ins→Bool
  |.op _ _ k=>k.memless
  |_=>false
def drawFree(l:List Ins)(pre:List (List Nat)):Bool :=
  l.all Ins.isOp&&(List.range l.length).all fun i=>match l[i]? with
    |some x=>x.turns||(loOf l pre i==hiOf l pre i||x.memless)
    |none=>false
section
variable {G:Nat→List IV} {R:Run}
theorem step_memless{s s':St}(ht:s'.tm=s.tm){d:Nat}{k:K}(hk:k.memless=true){r:AV×Heap×Nat}(e:opK G R s d k=some r):∃ r',opK G R s' d k=some r'∧r'.1=r.1:=by
 have hev:∀ x,ev s' x=ev s x:=fun x=>ev_congr fun t _=>by simp[St.get,ht]
 have hevs:ev s'=ev s:=funext hev;have hbd:∀ d x,bound d s' x=bound d s x:=fun d x=>bound_congr fun t _=>by simp[St.get,ht]
 have hokv:∀ {v:Option IV} {r:AV×Heap×Nat},okv s v=some r→∃ r',okv s' v=some r'∧r'.1=r.1:=fun {v r} h=>by
  cases v<;>simp[okv] at h ⊢
  rw[← h]
 have hok1:∀ {v:Option A1} {r:AV×Heap×Nat},ok1 s v=some r→∃ r',ok1 s' v=some r'∧r'.1=r.1:=fun {v r} h=>by
  cases v<;>simp[ok1] at h ⊢
  rw[← h]
 have hsome:∀ {v:AV} {r:AV×Heap×Nat},some (v,s.hp,s.ct)=some r→∃ r',some (v,s'.hp,s'.ct)=some r'∧r'.1=r.1:=fun {v r} h=>by
  simp at h ⊢;rw[← h]
 have hmap:∀ {v:Option AV} {r:AV×Heap×Nat},(v.map fun v=>(v,s.hp,s.ct))=some r→∃ r',(v.map fun v=>(v,s'.hp,s'.ct))=some r'∧r'.1=r.1:=fun {v r} h=>by
  cases v<;>simp at h ⊢
  rw[← h]
 cases k<;>simp[K.memless] at hk
 case build z ps l =>
  have e1:traverse (fun p:Nat×Opd=>(ev s' p.2).one.map fun a=>(p.1,a)) l=traverse (fun p:Nat×Opd=>(ev s p.2).one.map fun a=>(p.1,a)) l :=
   traverse_congr fun x _=>by rw[hev]
  simp only[opK,step,e1] at e ⊢;split at e
  ·exact hok1 e
  ·simp at e
 case len ty x =>
  subst hk;simp only[opK,step,hev] at e ⊢;have key:∀ q:AV,(match (0:Nat),q with
   |0,.v (.c (.r (.i (.str l))))=>okv s (some (.int .i64 l.length))
   |1,.v (.c (.r (.i .nilS)))=>okv s (some (.int .i64 0))
   |1,.v (.c (.r (.i .emp)))=>okv s (some (.int .i64 0))
   |1,.v (.c (.r (.i (.lit _ _ n))))=>okv s (some (.int .i64 n))
   |1,.v (.c (.r (.sl b g _ _ n)))=>if s.hp.cur b=some g then okv s (some (.int .i64 n)) else none
   |2,.v (.c (.r (.i .nilM)))=>okv s (some (.int .i64 0))
   |2,.v (.c (.r (.map b g)))=>match s.hp.mapAt b g with
    |some (es,_)=>okv s (some (.int .i64 es.length))
    |none=>none
   |_,_=>none)=some r→∃ l,q=.v (.c (.r (.i (.str l)))):=by
   intro q hq;split at hq<;>simp_all
  obtain ⟨l,hl⟩:=key _ e;rw[hl] at e ⊢;exact hokv e
 case galloc n t =>
  have hg:s'.get t=s.get t:=by simp[St.get,ht]
  simp only[opK,step,ht,hg] at e ⊢;by_cases hl:t<s.tm.length
  ·simp only[if_pos hl] at e ⊢
   cases hq:s.get t with
   |und=>simp only[hq] at e ⊢;exact hsome e
   |_=>simp[hq] at e
  ·simp[if_neg hl] at e
 case gsto n x =>
  simp only[opK,step,hev] at e ⊢;cases hq:ev s x with
  |v w =>
   simp only[hq] at e ⊢;by_cases hl:w.cells.length=n
   ·simp only[if_pos hl] at e ⊢
    cases hi:traverse cellI w.cells with
    |none=>simp[hi] at e
    |some is=>simp only[hi] at e ⊢;exact hsome e
   ·simp[if_neg hl] at e
  |_=>simp[hq] at e
 all_goals
  simp only[opK,step,hev,hevs,hbd] at e ⊢;repeat' split at e
  all_goals first|exact hokv e|exact hok1 e|exact hsome e|exact hmap e|exact absurd e (by simp)|(rw[if_pos (by assumption)];first|exact hokv e|exact hok1 e|exact hsome e)|(rename_i hneg;simp only[hneg,if_true] ;exact hokv e)|(rename_i hneg;simp only[hneg,if_false,Bool.false_eq_true] ;exact hokv e)
theorem insV_memless{s s':St}(ht:s'.tm=s.tm){d:Option Nat}{g:Option (Nat×Bool)}{k:K}(hk:k.memless=true){r:AV×Heap×Nat}(e:insV G R s d g k=some r):∃ r',insV G R s' d g k=some r'∧r'.1=r.1:=by
 have hw:want s' g=want s g:=by
  cases g with
  |none=>rfl
  |some p=>simp only[want,St.get,ht]
 simp only[insV,hw] at e ⊢;split at e
 ·exact step_memless ht hk e
 ·simp at e;subst e;exact ⟨_,rfl,rfl⟩
 ·simp at e
mutual
theorem eqIV_refl:∀ x:IV,eqIV x x=true
  |.bool a=>by simp[eqIV]
  |.int k a=>by simp[eqIV]
  |.str a=>by simp[eqIV]
  |.nilS=>rfl
  |.emp=>rfl
  |.nilP=>rfl
  |.nilM=>rfl
  |.nilF=>rfl
  |.nilI=>rfl
  |.lit t a n=>by simp[eqIV,eqIVs_refl a]
  |.lp t a=>by simp[eqIV,eqIVs_refl a]
  |.gp g o=>by simp[eqIV]
  |.clo f a=>by simp[eqIV,eqIVs_refl a]
theorem eqIVs_refl:∀ x:List IV,eqIVs x x=true
  |[]=>rfl
  |x::l=>by simp[eqIVs,eqIV_refl x,eqIVs_refl l]
end
theorem eqL_refl{α:Type}{f:α→α→Bool}(hf:∀ x,f x x=true):∀ l:List α,eqL f l l=true
 |[]=>rfl
 |x::l=>by simp[eqL,hf,eqL_refl hf l]
theorem eqAR_refl(x:AR):eqAR x x=true:=by cases x<;>simp[eqAR,eqIV_refl]
theorem eqAC_refl(x:AC):eqAC x x=true:=by cases x<;>simp[eqAC,eqAR_refl,eqL_refl eqAR_refl]
theorem eqA1_refl(x:A1):eqA1 x x=true:=by cases x<;>simp[eqA1,eqAC_refl,eqL_refl eqAC_refl]
theorem eqAV_refl(x:AV):eqAV x x=true:=by cases x<;>simp[eqAV,eqA1_refl,eqL_refl eqA1_refl]
theorem trail_of:∀ {l:List Ins} {s s':St},insL G R l s=some s'→∃ ss hs,trail G R l s=some (ss,hs)∧ss.getLast?=some s'
 |[],s,s',e=>by simp[insL] at e;subst e;exact ⟨[s],[(s.hp,s.ct)],rfl,rfl⟩
 |x::l,s,s',e=>by
  simp only[insL] at e
  split at e
  ·rename_i s1 h1
   obtain ⟨ss,hs,h2,h3⟩:=trail_of e
   refine ⟨s::ss,if x.turns then (s.hp,s.ct)::hs else hs,by simp only[trail,h1,h2],?_⟩
   cases ss with
   |nil=>simp at h3
   |cons a b=>simpa using h3
  ·simp at e
theorem drawDyn_free{l:List Ins}{pre:List (List Nat)}(hf:drawFree l pre=true)(hd:Draw l pre){s:St}{ss:List St}{hs:List (Heap×Nat)}(ht:trail G R l s=some (ss,hs)):drawDyn G R l pre ss hs=true:=by
 simp only[drawFree,Bool.and_eq_true,List.all_eq_true,List.mem_range] at hf;have C:=Canon.of hf.1 ht;simp only[drawDyn,List.all_eq_true,List.mem_range];intro i hi;have hfi:=hf.2 i hi;obtain ⟨x,hx⟩:∃ x,l[i]?=some x:=⟨l[i],by simp[hi]⟩;obtain ⟨s1,s2,h1,h2,h3⟩:=C.step i x hx;rw[hx] at hfi;simp only[hx,h1,Bool.or_eq_true,beq_iff_eq,List.all_eq_true,List.mem_range] at hfi ⊢;rcases hfi with h|h|h
 ·exact .inl h
 ·exact .inr (.inl h)
 ·by_cases htr:x.turns=true
  ·exact .inl htr
  refine .inr (.inr fun c hc=>?_);obtain ⟨d,g,k,rfl⟩:=hd.op i x hx;have htot:∀ c,c≤cntS l (ltS l.length)→∃ m,hs[c]?=some m:=by
   intro c hc;have hn:ss[l.length]?=some (ss[l.length]'(by rw[C.len];omega)):=by simp[C.len]
   have:=C.mem l.length _ (Nat.le_refl _) hn
   have hlt:=(List.getElem?_eq_some_iff.1 this).1;exact ⟨hs[c]'(by omega),by simp⟩
  have hhi:hiOf l pre i≤cntS l (ltS l.length):=by
   unfold hiOf;refine cntS_mono fun j hj _=>?_;unfold turnAt at hj;split at hj
   ·rename_i y hy
    have:=(List.getElem?_eq_some_iff.1 hy).1
    simp[ltS,this]
   ·simp at hj
  obtain ⟨m,hm⟩:=htot (loOf l pre i+c) (by omega);rw[hm];simp only[insI] at h3;split at h3
  ·rename_i r hr
   obtain ⟨r',hr',he⟩:=insV_memless (s:=s1) (s':={s1 with hp:=m.1,ct:=m.2}) rfl h hr;simp only[stableAt,hr,hr',he,eqAV_refl]
  ·simp at h3
variable {nt:Nat} {σ:Sl} {hp:Heap} {ct:Nat}
theorem wpE_regD{l:List Ins}{pre:List (List Nat)}{Q:Ex→Sl→Heap→Nat→Prop}(hd:drawStatic l pre=true)(hf:drawFree l pre=true)(h:wpX G R nt l σ hp ct (Q .normal)):wpE G R nt (.regD l pre) σ hp ct Q:=by
 obtain ⟨σ',hp',ct',h1,h2⟩:=h;obtain ⟨ss,hs,h3,h4⟩:=trail_of h1;refine ⟨0,.normal,σ',hp',ct',?_,h2⟩;simp only[exec,h3,drawDyn_free hf (Draw.of hd) h3,if_true,h4]
theorem wpE_regD'{l:List Ins}{pre:List (List Nat)}{Q:Ex→Sl→Heap→Nat→Prop}{ss:List St}{hs:List (Heap×Nat)}(ht:trail G R l (mkS nt σ hp ct)=some (ss,hs))(hdyn:drawDyn G R l pre ss hs=true){σ':Sl}{hp':Heap}{ct':Nat}
  (hl:ss.getLast?=some (mkS nt σ' hp' ct')) (h:Q .normal σ' hp' ct'):wpE G R nt (.regD l pre) σ hp ct Q :=
 ⟨0,.normal,σ',hp',ct',by simp only[exec,ht,hdyn,if_true,hl],h⟩
end
def ini(args:List A1):Sl:=fun t=>(args.map AV.v).getD t .und
theorem start_mk(fn:Fn)(args:List A1)(bs:List Blk)(h:args.length≤fn.nt):start fn args bs=mkS fn.nt (ini args) (bs.zipIdx.map fun (b,i)=>(PB+i,b)) 1:=by
 simp only[start,mkS];congr 1;apply List.ext_getElem?;intro i;by_cases h1:i<args.length
 ·rw[List.getElem?_append_left (by simpa using h1)]
  have:i<fn.nt:=by omega
  simp[List.getElem?_range this,ini,h1]
 ·rw[List.getElem?_append_right (by simpa using Nat.le_of_not_lt h1)]
  by_cases h2:i<fn.nt
  ·rw[List.getElem?_replicate,if_pos (by simp;omega)]
   simp[List.getElem?_range h2,ini,List.getElem?_eq_none (Nat.le_of_not_lt h1)]
  ·rw[List.getElem?_eq_none (by simp;omega),List.getElem?_eq_none (by simpa using Nat.le_of_not_lt h2)]
def readRσ(nt:Nat)(σ:Sl)(hp:Heap):Res→Option A1
  |.tmp t=>(evσ nt σ (.t t)).one
  |.cell t n agg=>match evσ nt σ (.t t) with
    |.v (.c (.r (.ptr b g off)))=>match hp.row b g with
      |some cs=>match takeN n (cs.drop off) with
        |some cs=>mk1 agg cs
        |none=>none
      |none=>none
    |_=>none
theorem readRes_mk{nt:Nat}{σ:Sl}{hp:Heap}{ct:Nat}(r:Res):readRes (mkS nt σ hp ct) r=readRσ nt σ hp r:=by
 cases r
 ·simp only[readRes,readRσ,get_mk,evσ]
 ·simp only[readRes,readRσ,get_mk,evσ,mkS_hp]
  rfl
def atEnd(nt:Nat)(res:List Res)(Q:List A1→Heap→Prop):Ex→Sl→Heap→Nat→Prop
  |.exit _,_,_,_=>False
  |_,σ,hp,_=>∃ rs,traverse (readRσ nt σ hp) res=some rs∧Q rs hp
section
variable {G:Nat→List IV} {F:Nat→Option Fn} {X:Run}
theorem fn_wp{f:Nat}{fn:Fn}(hf:F f=some fn){args:List A1}{bs:List Blk}(hn:args.length≤fn.nt){Q:List A1→Heap→Prop}
  (h:wpE G (lim G F X) fn.nt fn.body (ini args) (bs.zipIdx.map fun (b,i)=>(PB+i,b)) 1 (atEnd fn.nt fn.res Q)):∃ rs hp,lim G F X f args bs=some (rs,hp)∧Q rs hp:=by
 obtain ⟨n,ex,σ',hp',ct',h1,h2⟩:=h;rw[← start_mk fn args bs hn] at h1;have hr:∀ rs,traverse (readRσ fn.nt σ' hp') fn.res=some rs→traverse (readRes (mkS fn.nt σ' hp' ct')) fn.res=some rs:=fun rs e=>by
  rw[← e];exact traverse_congr fun x _=>readRes_mk x
 cases ex with
 |exit i=>exact absurd h2 id
 |normal =>
  obtain ⟨rs,e1,e2⟩:=h2;exact ⟨rs,hp',lim_fn hf h1 (fun i q=>by cases q) (hr rs e1),e2⟩
 |ret =>
  obtain ⟨rs,e1,e2⟩:=h2;exact ⟨rs,hp',lim_fn hf h1 (fun i q=>by cases q) (hr rs e1),e2⟩
end
section
variable {nt:Nat} {σ:Sl} {hp:Heap} {ct:Nat} {G:Nat→List IV} {R:Run}
theorem evals_mk(l:List Opd):evals (mkS nt σ hp ct) l=traverse (fun o=>(evσ nt σ o).one) l :=
 traverse_congr fun x _=>by rw[ev_mk]
theorem opK_pure{d f:Nat}{l:List Opd}{as as' vs:List A1}(h1:traverse (fun o=>(evσ nt σ o).one) l=some as)(h2:traverse (to1 true hp []) as=some as')
  (h3:pureCall R f as' (as.any fun a=>a.cells.any (lentC []))=some vs):opK G R (mkS nt σ hp ct) d (.call f l {give:=[],ad:=[],pure:=true})=some (resV vs,hp,ct):=by
 simp only[opK,evals_mk,h1,doCall,if_true,mkS_hp,mkS_ct,h2];unfold pureCall at h3;split at h3
 ·rename_i rs h e
  rw[e];simp only;rw[h3]
 ·simp at h3
end
end Go.Abs
namespace Go.Abs
def guardO(w:Option Bool)(r:Option (AV×Heap×Nat))(hp:Heap)(ct:Nat):Option (AV×Heap×Nat) :=
  match w with
  |some true=>r
  |some false=>some (.skp,hp,ct)
  |none=>none
def wpK(next:Sl→Heap→Nat→Prop)(σ:Sl)(dd:Option Nat):Option (AV×Heap×Nat)→Prop
  |some r=>next (updO σ dd r.1) r.2.1 r.2.2
  |none=>False
def wpL(G:Nat→List IV)(R:Run)(nt:Nat):List Ins→(Sl→Heap→Nat→Prop)→Sl→Heap→Nat→Prop
  |[],Q,σ,hp,ct=>Q σ hp ct
  |.op dd g k::l,Q,σ,hp,ct=>wpK (wpL G R nt l Q) σ dd (guardO (wantσ nt σ g) (opK G R (mkS nt σ hp ct) (dd.getD 0) k) hp ct)
  |i::l,Q,σ,hp,ct=>∃ σ' hp' ct',insI G R (mkS nt σ hp ct) i=some (mkS nt σ' hp' ct')∧wpL G R nt l Q σ' hp' ct'
theorem wpL_sound{nt:Nat}{G:Nat→List IV}{R:Run}:∀ {l:List Ins} {σ:Sl} {hp:Heap} {ct:Nat} {Q:Sl→Heap→Nat→Prop},wpL G R nt l Q σ hp ct→wpX G R nt l σ hp ct Q
 |[],σ,hp,ct,Q,h=>wpX_nil h
 |.op dd g k::l,σ,hp,ct,Q,h=>by
  simp only[wpL] at h
  unfold guardO at h
  split at h
  ·rename_i hg
   unfold wpK at h
   split at h
   ·rename_i r hr
    exact wpX_opG hg hr (wpL_sound h)
   ·exact h.elim
  ·rename_i hg
   exact wpX_opF hg (wpL_sound h)
  ·exact h.elim
 |.kill a b::l,σ,hp,ct,Q,h=>by
  simp only[wpL] at h
  obtain ⟨σ',hp',ct',h1,h2⟩:=h
  obtain ⟨σ2,hp2,ct2,h3,h4⟩:=wpL_sound h2
  exact ⟨σ2,hp2,ct2,by simp only[insL,h1];exact h3,h4⟩
 |.frz a::l,σ,hp,ct,Q,h=>by
  simp only[wpL] at h
  obtain ⟨σ',hp',ct',h1,h2⟩:=h
  obtain ⟨σ2,hp2,ct2,h3,h4⟩:=wpL_sound h2
  exact ⟨σ2,hp2,ct2,by simp only[insL,h1];exact h3,h4⟩
section
variable {nt:Nat} {σ:Sl} {hp:Heap} {ct d:Nat} {G:Nat→List IV} {R:Run}
theorem wp_reg{l:List Ins}{Q:Ex→Sl→Heap→Nat→Prop}(h:wpL G R nt l (Q .normal) σ hp ct):wpE G R nt (.reg l) σ hp ct Q:=wpE_reg (wpL_sound h)
theorem wp_regD{l:List Ins}{pre:List (List Nat)}{Q:Ex→Sl→Heap→Nat→Prop}(hd:drawStatic l pre=true)(hf:drawFree l pre=true)(h:wpL G R nt l (Q .normal) σ hp ct):wpE G R nt (.regD l pre) σ hp ct Q :=
 wpE_regD hd hf (wpL_sound h)
@[simp] theorem guardO_true (r:Option (AV×Heap×Nat)) (hp:Heap) (ct:Nat):guardO (some true) r hp ct=r:=rfl
@[simp] theorem guardO_false (r:Option (AV×Heap×Nat)) (hp:Heap) (ct:Nat):guardO (some false) r hp ct=some (.skp,hp,ct):=rfl
@[simp] theorem wpK_some (next:Sl→Heap→Nat→Prop) (dd:Option Nat) (v:AV) (h:Heap) (c:Nat):wpK next σ dd (some (v,h,c))=next (updO σ dd v) h c:=rfl
@[simp] theorem updO_some (v:AV) (t:Nat):updO σ (some t) v=upd σ t v:=rfl
@[simp] theorem updO_none (v:AV):updO σ none v=σ:=rfl
@[simp] theorem upd_at (t:Nat) (v:AV) (u:Nat):upd σ t v u=if u=t then v else σ u:=rfl
@[simp] theorem evσ_t (n:Nat):evσ nt σ (.t n)=if n<nt then σ n else .und:=rfl
@[simp] theorem evσ_c (v:IV):evσ nt σ (.c v)=V v:=rfl
@[simp] theorem evσ_ca (l:List IV):evσ nt σ (.ca l)=.v (.agg (l.map I)):=rfl
def here(hp:Heap)(ct:Nat):AV→Option (AV×Heap×Nat)
  |.und=>none
  |.skp=>none
  |v=>some (v,hp,ct)
@[simp] theorem here_v (a:A1):here hp ct (.v a)=some (.v a,hp,ct):=rfl
@[simp] theorem here_tup (l:List A1):here hp ct (.tup l)=some (.tup l,hp,ct):=rfl
@[simp] theorem x_mov (x:Opd):opK G R (mkS nt σ hp ct) d (.mov x)=here hp ct (evσ nt σ x):=by
  simp only[opK,step,ev_mk]
  cases evσ nt σ x<;>rfl
@[simp] theorem x_pick (c x y:Opd):opK G R (mkS nt σ hp ct) d (.pick c x y)=match (evσ nt σ c).bool with
    |some true=>some (evσ nt σ x,hp,ct)
    |some false=>some (evσ nt σ y,hp,ct)
    |none=>none:=by simp only[opK,step,ev_mk];rfl
@[simp] theorem x_bin (op:BinOp) (x y:Opd):opK G R (mkS nt σ hp ct) d (.bin op x y)=(binV op (evσ nt σ x) (evσ nt σ y)).map fun v=>(V v,hp,ct):=by simp only[opK,step,ev_mk,okv];rfl
@[simp] theorem x_eqB (neg:Bool) (x y:Opd):opK G R (mkS nt σ hp ct) d (.eqB neg x y)=match (evσ nt σ x).bool,(evσ nt σ y).bool with
    |some a,some b=>some (V (.bool (if neg then !(a==b) else a==b)),hp,ct)
    |_,_=>none:=by simp only[opK,step,ev_mk,okv];rfl
@[simp] theorem x_un_neg (x:Opd):opK G R (mkS nt σ hp ct) d (.un .neg x)=match (evσ nt σ x).int with
    |some (k,n)=>some (V (.int k (k.wrap (0-n))),hp,ct)
    |none=>none:=by
  simp only[opK,step,ev_mk,okv]
  split<;>simp_all [AV.int]<;>exact ⟨rfl,rfl⟩
@[simp] theorem x_un_not (x:Opd):opK G R (mkS nt σ hp ct) d (.un .not x)=match (evσ nt σ x).bool with
    |some b=>some (V (.bool !b),hp,ct)
    |none=>none:=by
  simp only[opK,step,ev_mk,okv]
  split<;>simp_all [AV.bool]<;>exact ⟨rfl,rfl⟩
@[simp] theorem x_cvI (k:IntKind) (x:Opd):opK G R (mkS nt σ hp ct) d (.cvI k x)=match (evσ nt σ x).int with
    |some p=>some (V (.int k (k.wrap p.2)),hp,ct)
    |none=>none:=by
  simp only[opK,step,ev_mk,okv]
  split<;>simp_all<;>exact ⟨rfl,rfl⟩
@[simp] theorem x_fld (off n:Nat) (agg:Bool) (x:Opd):opK G R (mkS nt σ hp ct) d (.fld off n agg x)=match evσ nt σ x with
    |.v (.agg xs)=>match takeN n (xs.drop off) with
      |some cs=>(mk1 agg cs).map fun v=>(.v v,hp,ct)
      |none=>none
    |_=>none:=by simp only[opK,step,ev_mk,ok1];rfl
@[simp] theorem x_ext (x:Opd) (n:Nat):opK G R (mkS nt σ hp ct) d (.ext x n)=match evσ nt σ x with
    |.tup l=>(l[n]?).map fun v=>(.v v,hp,ct)
    |_=>none:=by simp only[opK,step,ev_mk,ok1];rfl
@[simp] theorem x_len (ty:Nat) (x:Opd):opK G R (mkS nt σ hp ct) d (.len ty x)=match ty,evσ nt σ x with
    |0,.v (.c (.r (.i (.str l))))=>some (V (.int .i64 l.length),hp,ct)
    |1,.v (.c (.r (.i .nilS)))=>some (V (.int .i64 0),hp,ct)
    |1,.v (.c (.r (.i .emp)))=>some (V (.int .i64 0),hp,ct)
    |1,.v (.c (.r (.i (.lit _ _ n))))=>some (V (.int .i64 n),hp,ct)
    |1,.v (.c (.r (.sl b g _ _ n)))=>if hp.cur b=some g then some (V (.int .i64 n),hp,ct) else none
    |2,.v (.c (.r (.i .nilM)))=>some (V (.int .i64 0),hp,ct)
    |2,.v (.c (.r (.map b g)))=>match hp.mapAt b g with
      |some (es,_)=>some (V (.int .i64 es.length),hp,ct)
      |none=>none
    |_,_=>none:=by simp only[opK,step,ev_mk,okv,mkS_hp,mkS_ct];rfl
@[simp] theorem x_mx (l:List Opd):opK G R (mkS nt σ hp ct) d (.mx l)=match l.map (evσ nt σ) with
    |x::r=>(foldV maxI x r).map fun v=>(v,hp,ct)
    |[]=>none:=by
  have:ev (mkS nt σ hp ct)=evσ nt σ:=funext fun x=>ev_mk x
  simp only[opK,step,this];rfl
@[simp] theorem x_mn (l:List Opd):opK G R (mkS nt σ hp ct) d (.mn l)=match l.map (evσ nt σ) with
    |x::r=>(foldV minI x r).map fun v=>(v,hp,ct)
    |[]=>none:=by
  have:ev (mkS nt σ hp ct)=evσ nt σ:=funext fun x=>ev_mk x
  simp only[opK,step,this];rfl
@[simp] theorem x_idxS (x i:Opd):opK G R (mkS nt σ hp ct) d (.idxS x i)=match (evσ nt σ x).strv,(evσ nt σ i).nat with
    |some l,some i=>match l[i]? with
      |some c=>some (V (.int .u8 c.toNat),hp,ct)
      |none=>none
    |_,_=>none:=by simp only[opK,step,ev_mk,okv];rfl
@[simp] theorem x_alloc (cs:List IV):opK G R (mkS nt σ hp ct) d (.alloc cs)=some (.v (.c (.r (.ptr d ct 0))),hp.set d (.cells ct (cs.map I)),ct+1):=rfl
@[simp] theorem x_box (n:Nat) (x:Opd):opK G R (mkS nt σ hp ct) d (.box n x)=match evσ nt σ x with
    |.v a=>if a.cells.length=n then some (.v (.c (.r (.ptr d ct 0))),hp.set d (.cells ct a.cells),ct+1) else none
    |_=>none:=by simp only[opK,step,ev_mk];rfl
@[simp] theorem x_load (n:Nat) (agg:Bool) (x:Opd):opK G R (mkS nt σ hp ct) d (.load n agg x)=match evσ nt σ x with
    |.v (.c p)=>match lookAt G hp p with
      |some cs=>match takeN n cs with
        |some cs=>(mk1 agg cs).map fun v=>(.v v,hp,ct)
        |none=>none
      |none=>none
    |_=>none:=by simp only[opK,step,ev_mk,ok1];rfl
@[simp] theorem x_store (n:Nat) (x y:Opd):opK G R (mkS nt σ hp ct) d (.store n x y)=match evσ nt σ x,evσ nt σ y with
    |.v (.c (.r (.ptr b g off))),.v w=>match hp.row b g with
      |some cs=>if w.cells.length=n∧off+n≤cs.length then some (.und,hp.set b (.cells g (lay cs off w.cells)),ct) else none
      |none=>none
    |_,_=>none:=by simp only[opK,step,ev_mk];rfl
@[simp] theorem x_clr (sz:Nat) (zero:List IV) (x:Opd):opK G R (mkS nt σ hp ct) d (.clr sz zero x)=match evσ nt σ x with
    |.v (.c (.r (.sl b g off sz' len))) =>
      if len=0 then (if hp.cur b=some g then some (.und,hp,ct) else none) else match hp.row b g with
        |some cs=>if sz'=sz∧zero.length=sz∧off+len*sz≤cs.length then some (.und,hp.set b (.cells g (lay cs off (repC len zero))),ct) else none
        |none=>none
    |_=>none:=by simp only[opK,step,ev_mk];rfl
@[simp] theorem x_fadr (off:Nat) (x:Opd):opK G R (mkS nt σ hp ct) d (.fadr off x)=match evσ nt σ x with
    |.v (.c (.r (.ptr b g o)))=>if hp.cur b=some g then some (.v (.c (.r (.ptr b g (o+off)))),hp,ct) else none
    |.v (.c (.r (.i (.lp t cs))))=>some (V (.lp t (cs.drop off)),hp,ct)
    |.v (.c (.r (.i (.gp g o))))=>some (V (.gp g (o+off)),hp,ct)
    |_=>none:=by simp only[opK,step,ev_mk];rfl
@[simp] theorem x_iadr (sz:Nat) (x i:Opd):opK G R (mkS nt σ hp ct) d (.iadr sz x i)=match evσ nt σ x,(evσ nt σ i).nat with
    |.v (.c (.r (.sl b g off sz' len))),some i=>if sz'=sz∧i<len∧hp.cur b=some g then some (.v (.c (.r (.ptr b g (off+i*sz)))),hp,ct) else none
    |.v (.c (.r (.i (.lit t cs len)))),some i=>if i<len∧cs.length=len*sz then some (V (.lp t ((cs.drop (i*sz)).take sz)),hp,ct) else none
    |_,_=>none:=by simp only[opK,step,ev_mk];rfl
@[simp] theorem x_nilchk (x:Opd):opK G R (mkS nt σ hp ct) d (.nilchk x)=match evσ nt σ x with
    |.v (.c (.r (.ptr b g off)))=>if hp.cur b=some g then some (.v (.c (.r (.ptr b g off))),hp,ct) else none
    |.v (.c (.r (.i (.lp t cs))))=>some (V (.lp t cs),hp,ct)
    |.v (.c (.r (.i (.gp g off))))=>some (V (.gp g off),hp,ct)
    |.v (.c (.r (.i (.clo f cs))))=>some (V (.clo f cs),hp,ct)
    |.v (.c (.clo f cs))=>some (.v (.c (.clo f cs)),hp,ct)
    |_=>none:=by simp only[opK,step,ev_mk];rfl
@[simp] theorem x_build (zero:List IV) (places:List (Nat×Nat)) (parts:List (Nat×Opd)):opK G R (mkS nt σ hp ct) d (.build zero places parts)=match traverse (fun p:Nat×Opd=>(evσ nt σ p.2).one.map fun a=>(p.1,a)) parts with
    |some ps=>(fillP places (zero.map I) ps).map fun cs=>(.v (.agg cs),hp,ct)
    |none=>none:=by
  have:∀ p:Nat×Opd,ev (mkS nt σ hp ct) p.2=evσ nt σ p.2:=fun p=>ev_mk p.2
  simp only[opK,step,this,ok1]
  cases traverse (fun p:Nat×Opd=>(evσ nt σ p.2).one.map fun a=>(p.1,a)) parts with
  |none=>rfl
  |some ps=>simp only;cases fillP places (zero.map I) ps<;>rfl
@[simp] theorem x_bsl (sz len:Nat) (zero:List IV) (parts:List (Nat×Opd)) (own:Bool):opK G R (mkS nt σ hp ct) d (.bsl sz len zero parts own)=match traverse (fun p:Nat×Opd=>(evσ nt σ p.2).one.map fun a=>(p.1,a)) parts with
    |some ps=>if len*sz≤16777216∧zero.length=sz then
        match fillS sz (repC len zero) ps with
        |some cs =>
          if own then some (.v (.c (.r (.sl d ct 0 sz len))),hp.set d (.cells ct cs),ct+1)
          else match traverse (rd (fun _=>false) hp 0 0) cs with
            |some vs=>some (V (.lit 0 vs len),hp,ct)
            |none=>none
        |none=>none
      else none
    |none=>none:=by
  have:∀ p:Nat×Opd,ev (mkS nt σ hp ct) p.2=evσ nt σ p.2:=fun p=>ev_mk p.2
  simp only[opK,step,this]
  rfl
@[simp] theorem x_app (sz bytes:Nat) (str:Bool) (x y:Opd):opK G R (mkS nt σ hp ct) d (.app sz bytes str x y)=match evσ nt σ x,evσ nt σ y with
    |.v (.c a),.v (.c b)=>match if isStrC b=str then slCells hp sz b else none with
      |some (new,n)=>match a with
        |.r (.i .nilS) =>
          if n=0 then some (V .nilS,hp,ct)
          else if n*bytes≤17592186044416∧n≤17592186044416 then some (.v (.c (.r (.sl d ct 0 sz n))),hp.set d (.cells ct new),ct+1) else none
        |.r (.i .emp) =>
          if n=0 then some (V .emp,hp,ct)
          else if n*bytes≤17592186044416∧n≤17592186044416 then some (.v (.c (.r (.sl d ct 0 sz n))),hp.set d (.cells ct new),ct+1) else none
        |.r (.sl b g off sz' len) =>
          match hp.row b g with
          |some cs=>if sz'=sz∧off+len*sz≤cs.length∧(len+n)*bytes≤17592186044416∧len+n≤17592186044416 then
              some (.v (.c (.r (.sl b ct off sz (len+n)))),hp.set b (.cells ct (cs.take (off+len*sz)++new)),ct+1) else none
          |none=>none
        |_=>none
      |none=>none
    |_,_=>none:=by
  simp only[opK,step,ev_mk];rfl
@[simp] theorem x_mksl (sz bytes:Nat) (zero:List IV) (x y:Opd):opK G R (mkS nt σ hp ct) d (.mksl sz bytes zero x y)=match (evσ nt σ x).nat,(evσ nt σ y).nat with
    |some n,some c=>if n=c∧bytes*n≤70368744177664∧n≤70368744177664∧zero.length=sz then
        some (.v (.c (.r (.sl d ct 0 sz n))),hp.set d (.cells ct (repC n zero)),ct+1) else none
    |_,_=>none:=by simp only[opK,step,ev_mk];rfl
@[simp] theorem x_call (f:Nat) (l:List Opd):opK G R (mkS nt σ hp ct) d (.call f l {give:=[],ad:=[],pure:=true})=match traverse (fun o=>(evσ nt σ o).one) l with
    |some as=>match traverse (to1 true hp []) as with
      |some as'=>match pureCall R f as' (as.any fun a=>a.cells.any (lentC [])) with
        |some vs=>some (resV vs,hp,ct)
        |none=>none
      |none=>none
    |none=>none:=by
  simp only[opK,evals_mk]
  cases traverse (fun o=>(evσ nt σ o).one) l with
  |none=>rfl
  |some as =>
    simp only[doCall,if_true,mkS_hp,mkS_ct]
    cases traverse (to1 true hp []) as with
    |none=>rfl
    |some as' =>
      simp only[pureCall]
      cases R f as' [] with
      |none=>rfl
      |some r =>
        obtain ⟨rs,h⟩:=r
        rfl
@[simp] theorem to1_int (h:Heap) (ids:List Nat) (k:IntKind) (n:Int):to1 true h ids (.c (I (.int k n)))=some (.c (I (.int k n))):=by simp[to1,toC,toR,IV.retag]
@[simp] theorem to1_bool (h:Heap) (ids:List Nat) (b:Bool):to1 true h ids (.c (I (.bool b)))=some (.c (I (.bool b))):=by simp[to1,toC,toR,IV.retag]
@[simp] theorem to1_str (h:Heap) (ids:List Nat) (b:List UInt8):to1 true h ids (.c (I (.str b)))=some (.c (I (.str b))):=by simp[to1,toC,toR,IV.retag]
@[simp] theorem back1_int (h:Heap) (pl:List (Nat×Nat×Nat)) (lent:Bool) (k:IntKind) (n:Int):back1 h pl lent (.c (I (.int k n)))=some (.c (I (.int k n))):=by simp[back1,backC,backR,IV.fresh]
@[simp] theorem back1_bool (h:Heap) (pl:List (Nat×Nat×Nat)) (lent:Bool) (b:Bool):back1 h pl lent (.c (I (.bool b)))=some (.c (I (.bool b))):=by simp[back1,backC,backR,IV.fresh]
@[simp] theorem back1_str (h:Heap) (pl:List (Nat×Nat×Nat)) (lent:Bool) (b:List UInt8):back1 h pl lent (.c (I (.str b)))=some (.c (I (.str b))):=by simp[back1,backC,backR,IV.fresh]
@[simp] theorem traverse_nil {α β:Type} (f:α→Option β):traverse f []=some []:=rfl
@[simp] theorem traverse_cons {α β:Type} (f:α→Option β) (a:α) (l:List α):traverse f (a::l)=match f a with
    |none=>none
    |some b=>match traverse f l with
      |none=>none
      |some bs=>some (b::bs):=rfl
@[simp] theorem ini_nil (t:Nat):ini [] t=.und:=rfl
@[simp] theorem ini_zero (a:A1) (l:List A1):ini (a::l) 0=.v a:=rfl
@[simp] theorem ini_succ (a:A1) (l:List A1) (t:Nat):ini (a::l) (t+1)=ini l t:=by simp[ini]
@[simp] theorem andThen_normal {b:IR} {Q:Ex→Sl→Heap→Nat→Prop}:andThen G R nt b Q .normal σ hp ct=wpE G R nt b σ hp ct Q:=rfl
@[simp] theorem andThen_ret {b:IR} {Q:Ex→Sl→Heap→Nat→Prop}:andThen G R nt b Q .ret σ hp ct=Q .ret σ hp ct:=rfl
@[simp] theorem andThen_exit {b:IR} {Q:Ex→Sl→Heap→Nat→Prop} {i:Nat}:andThen G R nt b Q (.exit i) σ hp ct=Q (.exit i) σ hp ct:=rfl
@[simp] theorem inBlk_normal {Q:Ex→Sl→Heap→Nat→Prop} {i:Nat}:inBlk i Q .normal σ hp ct=Q .normal σ hp ct:=rfl
@[simp] theorem inBlk_ret {Q:Ex→Sl→Heap→Nat→Prop} {i:Nat}:inBlk i Q .ret σ hp ct=Q .ret σ hp ct:=rfl
@[simp] theorem inBlk_exit {Q:Ex→Sl→Heap→Nat→Prop} {i j:Nat}:inBlk i Q (.exit j) σ hp ct=Q (if j=i then .normal else .exit j) σ hp ct:=rfl
@[simp] theorem again_ret {J:Nat→Sl→Heap→Nat→Prop} {m:Nat} {Q:Ex→Sl→Heap→Nat→Prop}:again J m Q .ret σ hp ct=Q .ret σ hp ct:=rfl
@[simp] theorem again_exit {J:Nat→Sl→Heap→Nat→Prop} {m i:Nat} {Q:Ex→Sl→Heap→Nat→Prop}:again J m Q (.exit i) σ hp ct=Q (.exit i) σ hp ct:=rfl
@[simp] theorem wantσ_none:wantσ nt σ none=some true:=rfl
@[simp] theorem wantσ_some (t:Nat) (b:Bool):wantσ nt σ (some (t,b))=match evσ nt σ (.t t) with
    |.v (.c (.r (.i (.bool c))))=>some (c==b)
    |.skp=>some false
    |_=>none:=rfl
@[simp] theorem atEnd_normal {res:List Res} {Q:List A1→Heap→Prop} {σ:Sl} {hp:Heap} {ct:Nat}:atEnd nt res Q .normal σ hp ct=∃ rs,traverse (readRσ nt σ hp) res=some rs∧Q rs hp:=rfl
@[simp] theorem atEnd_ret {res:List Res} {Q:List A1→Heap→Prop} {σ:Sl} {hp:Heap} {ct:Nat}:atEnd nt res Q .ret σ hp ct=∃ rs,traverse (readRσ nt σ hp) res=some rs∧Q rs hp:=rfl
@[simp] theorem readRσ_tmp (t:Nat):readRσ nt σ hp (.tmp t)=(evσ nt σ (.t t)).one:=rfl
@[simp] theorem resV_one (a:A1):resV [a]=.v a:=rfl
@[simp] theorem resV_two (a b:A1):resV [a,b]=.tup [a,b]:=rfl
@[simp] theorem resV_three (a b c:A1):resV [a,b,c]=.tup [a,b,c]:=rfl
theorem wrap_i64{n:Int}(h1 : -9223372036854775808≤n)(h2:n≤9223372036854775807):IntKind.i64.wrap n=n:=by
 simp[IntKind.wrap,IntKind.signed,IntKind.bits];omega
@[simp] theorem retags_ints (t:Nat) (k:IntKind) (l:List Int):IV.retags t (l.map (.int k))=l.map (.int k):=by
  induction l with
  |nil=>rfl
  |cons a l ih=>simp[IV.retags,IV.retag,ih]
@[simp] theorem Heap.get_one (b:Nat) (x:Blk):Heap.get [(b,x)] b=some x:=by simp[Heap.get]
@[simp] theorem Heap.cur_one (b:Nat) (x:Blk):Heap.cur [(b,x)] b=some x.gen:=by simp[Heap.cur]
@[simp] theorem Heap.row_one (b g:Nat) (cs:List AC):Heap.row [(b,.cells g cs)] b g=some cs:=by simp[Heap.row]
@[simp] theorem Heap.set_one (b:Nat) (x y:Blk):Heap.set [(b,x)] b y=[(b,y)]:=by simp[Heap.set]
@[simp] theorem gen_cells (g:Nat) (cs:List AC):(Blk.cells g cs).gen=g:=rfl
def A1.inl:A1→Bool
  |.c (.r (.i _))=>true
  |.agg xs=>xs.all fun|.r (.i _)=>true|_=>false
  |_=>false
theorem refs_inl{give:Bool}{a:A1}(h:a.inl=true):∀ x∈a.cells,refC give x=[]:=by
 intro x hx;unfold A1.inl at h;split at h
 ·simp[A1.cells] at hx;subst hx;rfl
 ·simp only[List.all_eq_true] at h
  have:=h x hx
  split at this
  ·rfl
  ·simp at this
 ·simp at h
theorem lent_inl{ids:List Nat}{a:A1}(h:a.inl=true):a.cells.any (lentC ids)=false:=by
 rw[List.any_eq_false];intro x hx;unfold A1.inl at h;split at h
 ·simp[A1.cells] at hx;subst hx;simp[lentC,lentR]
 ·simp only[List.all_eq_true] at h
  have:=h x hx
  split at this
  ·simp[lentC,lentR]
  ·simp at this
 ·simp at h
theorem call_ptr{f b g:Nat}{l:List Opd}{as as':List A1}{cs cs' cs2 cs3:List AC}{rs vs:List A1}{h:Heap}
  (h1:traverse (fun o=>(evσ nt σ o).one) l=some (.c (.r (.ptr b g 0))::as)) (h2:as.all A1.inl=true) (h3:traverse (to1 true hp [b]) as=some as') (h4:hp.get b=some (.cells g cs)) (h5:traverse (toC false hp [b]) cs=some cs')
  (h6:R f (.c (.r (.ptr PB 0 0))::as') [.cells 0 cs']=some (rs,h)) (h7:h.get PB=some (.cells 0 cs2)) (h8:traverse (backC h [(PB,b,g)] false) cs2=some cs3) (h9:traverse (back1 h [(PB,b,g)] false) rs=some vs) :
  opK G R (mkS nt σ hp ct) d (.call f l {give:=[],ad:=[],pure:=false})=some (resV vs,hp.set b (.cells g cs3),ct+1):=by
 have hids:refsOf [] (.c (.r (.ptr b g 0))::as)=[b]:=by
  have:(as.zipIdx 1).flatMap (fun (a,i)=>a.cells.zipIdx.flatMap fun (x,j)=>refC (([]:List (Nat×Nat)).contains (i,j)) x)=[]:=by
   rw[List.flatMap_eq_nil_iff];rintro ⟨a,i⟩ ha;have ha:a∈as:=by
    have:=List.mem_zipIdx ha
    exact this.2.2 ▸ List.getElem_mem _
   rw[List.flatMap_eq_nil_iff];rintro ⟨x,j⟩ hx;have hx:x∈a.cells:=by
    have:=List.mem_zipIdx hx
    exact this.2.2 ▸ List.getElem_mem _
   exact refs_inl (List.all_eq_true.1 h2 a ha) x hx
  unfold refsOf;rw[List.zipIdx_cons,List.flatMap_cons,this];simp[A1.cells,List.zipIdx,refC,refR,ddup]
 have hlent:((A1.c (.r (.ptr b g 0))::as).any fun a=>a.cells.any (lentC [b]))=false:=by
  rw[List.any_cons];have:(as.any fun a=>a.cells.any (lentC [b]))=false:=by
   rw[List.any_eq_false];intro a ha;rw[lent_inl (List.all_eq_true.1 h2 a ha)];simp
  rw[this];simp[A1.cells,lentC,lentR,idxOf]
 have hcur:hp.cur b=some g:=by simp[Heap.cur,h4]
 have hc2:h.cur PB=some 0:=by simp[Heap.cur,h7]
 have hto:to1 true hp [b] (.c (.r (.ptr b g 0)))=some (.c (.r (.ptr PB 0 0))):=by simp[to1,toC,toR,idxOf,hcur]
 have hpl:placesOf h hp ct [b] []=[(PB,b,g)]:=by simp[placesOf,List.zipIdx,hc2,hcur]
 simp only[opK,evals_mk,h1,doCall,Bool.false_eq_true,if_false,mkS_hp,mkS_ct,hids];have ht:traverse (to1 true hp [b]) (.c (.r (.ptr b g 0))::as)=some (.c (.r (.ptr PB 0 0))::as'):=by simp only[traverse,hto,h3]
 have hb:handOver hp [b]=some [.cells 0 cs']:=by simp[handOver,traverse,h4,toB,h5]
 rw[ht,hb];simp only[h6,hlent,show adOf [] rs h=[] from rfl,hpl];have hbh:backH h [(PB,b,g)] false [(PB,b,g)] hp=some (hp.set b (.cells g cs3)):=by simp[backH,h7,backB,h8]
 simp[nodupB,h9,hbh]
theorem rd_inl(q:Nat→Bool)(h:Heap)(t n:Nat)(v:IV):rd q h t n (I v)=some v:=by
 cases n<;>simp[rd]
theorem rd_inls(q:Nat→Bool)(h:Heap)(t n:Nat):∀ (vs:List IV),traverse (rd q h t n) (vs.map I)=some vs
 |[]=>rfl
 |v::vs=>by simp only[List.map_cons,traverse,rd_inl,rd_inls q h t n vs]
@[simp] theorem freshs_ints (k:IntKind) (l:List Int):IV.freshs (l.map (.int k))=true:=by
  induction l with
  |nil=>rfl
  |cons a l ih=>simp[IV.freshs,IV.fresh,ih]
@[simp] theorem freshs_ints' {α:Type} (k:IntKind) (f:α→Int) (l:List α):IV.freshs (l.map fun x=>.int k (f x))=true:=by
  induction l with
  |nil=>rfl
  |cons a l ih=>simp[IV.freshs,IV.fresh,ih]
@[simp] theorem retags_ints' {α:Type} (t:Nat) (k:IntKind) (f:α→Int) (l:List α):IV.retags t (l.map fun x=>.int k (f x))=l.map fun x=>.int k (f x):=by
  induction l with
  |nil=>rfl
  |cons a l ih=>simp[IV.retags,IV.retag,ih]
@[simp] theorem to1_lit (h:Heap) (ids:List Nat) (t n:Nat) (k:IntKind) (l:List Int):to1 true h ids (.c (I (.lit t (l.map (.int k)) n)))=some (.c (I (.lit 1 (l.map (.int k)) n))):=by simp[to1,toC,toR,IV.retag]
@[simp] theorem to1_nilS (h:Heap) (ids:List Nat):to1 true h ids (.c (I .nilS))=some (.c (I .nilS)):=by simp[to1,toC,toR,IV.retag]
@[simp] theorem back1_nilS (h:Heap) (pl:List (Nat×Nat×Nat)) (lent:Bool):back1 h pl lent (.c (I .nilS))=some (.c (I .nilS)):=by simp[back1,backC,backR,IV.fresh]
attribute [simp] wpL binV intBin shiftBin AV.int AV.nat AV.bool AV.strv AV.one A1.cells foldV maxI minI
end
theorem IV.retags_append(t:Nat):∀ a b:List IV,IV.retags t (a++b)=IV.retags t a++IV.retags t b
 |[],b=>rfl
 |x::a,b=>by simp[IV.retags,IV.retags_append t a b]
theorem IV.retags_length(t:Nat):∀ a:List IV,(IV.retags t a).length=a.length
 |[]=>rfl
 |x::a=>by simp[IV.retags,IV.retags_length t a]
theorem IV.freshs_append:∀ a b:List IV,IV.freshs (a++b)=(IV.freshs a&&IV.freshs b)
 |[],b=>by simp[IV.freshs]
 |x::a,b=>by simp[IV.freshs,IV.freshs_append a b,Bool.and_assoc]
structure Rep(α:Type) where
  sz:Nat
  rp:Bool→List IV→α→Prop
  len:∀ {f c x},rp f c x→c.length=sz
  retag:∀ {f c x},rp f c x→rp false (IV.retags 1 c) x
  fresh:∀ {c x},rp true c x→IV.freshs c=true
  weak:∀ {f c x},rp f c x→rp false c x
def Rep.int(k:IntKind):Rep Int where
  sz:=1
  rp:=fun _ c x=>c=[.int k x]
  len:=by rintro f c x rfl;rfl
  retag:=by rintro f c x rfl;rfl
  fresh:=by rintro c x rfl;rfl
  weak:=by rintro f c x rfl;rfl
def Rep.str:Rep (List UInt8) where
  sz:=1
  rp:=fun _ c x=>c=[.str x]
  len:=by rintro f c x rfl;rfl
  retag:=by rintro f c x rfl;rfl
  fresh:=by rintro c x rfl;rfl
  weak:=by rintro f c x rfl;rfl
def Rep.unit:Rep Unit where
  sz:=0
  rp:=fun _ c _=>c=[]
  len:=by rintro f c x rfl;rfl
  retag:=by rintro f c x rfl;rfl
  fresh:=by rintro c x rfl;rfl
  weak:=by rintro f c x rfl;rfl
def Rep.prod{α β:Type}(A:Rep α)(B:Rep β):Rep (α×β) where
  sz:=A.sz+B.sz
  rp:=fun f c x=>∃ a b,c=a++b∧A.rp f a x.1∧B.rp f b x.2
  len:=by rintro f c x ⟨a,b,rfl,h1,h2⟩;simp[A.len h1,B.len h2]
  retag:=by rintro f c x ⟨a,b,rfl,h1,h2⟩;exact ⟨_,_,IV.retags_append _ _ _,A.retag h1,B.retag h2⟩
  fresh:=by rintro c x ⟨a,b,rfl,h1,h2⟩;simp[IV.freshs_append,A.fresh h1,B.fresh h2]
  weak:=by rintro f c x ⟨a,b,rfl,h1,h2⟩;exact ⟨_,_,rfl,A.weak h1,B.weak h2⟩
def Rep.of{α β:Type}(A:Rep α)(g:β→α):Rep β where
  sz:=A.sz
  rp:=fun f c x=>A.rp f c (g x)
  len:=A.len
  retag:=A.retag
  fresh:=A.fresh
  weak:=A.weak
section
variable {α:Type}
def rows(R:Rep α)(f:Bool):List IV→List α→Prop
  |c,[]=>c=[]
  |c,x::l=>∃ a b,c=a++b∧R.rp f a x∧rows R f b l
theorem rows_len{R:Rep α}{f:Bool}:∀ {l:List α} {c:List IV},rows R f c l→c.length=l.length*R.sz
 |[],c,h=>by simp only[rows] at h;subst h;simp
 |x::l,c,h=>by
  obtain ⟨a,b,rfl,h1,h2⟩:=h
  rw[List.length_append,R.len h1,rows_len h2,List.length_cons,Nat.succ_mul,Nat.add_comm]
theorem rows_append{R:Rep α}{f:Bool}{m:List α}{d:List IV}(h2:rows R f d m):∀ {l:List α} {c:List IV},rows R f c l→rows R f (c++d) (l++m)
 |[],c,h=>by simp only[rows] at h;subst h;exact h2
 |x::l,c,h=>by
  obtain ⟨a,b,rfl,h1,h3⟩:=h
  exact ⟨a,b++d,by simp,h1,rows_append h2 h3⟩
theorem rows_one{R:Rep α}{f:Bool}{c:List IV}{x:α}(h:R.rp f c x):rows R f c [x]:=⟨c,[],by simp,h,rfl⟩
theorem rows_retag{R:Rep α}{f:Bool}:∀ {l:List α} {c:List IV},rows R f c l→rows R false (IV.retags 1 c) l
 |[],c,h=>by simp only[rows] at h;subst h;rfl
 |x::l,c,h=>by
  obtain ⟨a,b,rfl,h1,h2⟩:=h
  exact ⟨_,_,IV.retags_append _ _ _,R.retag h1,rows_retag h2⟩
theorem rows_fresh{R:Rep α}:∀ {l:List α} {c:List IV},rows R true c l→IV.freshs c=true
 |[],c,h=>by simp only[rows] at h;subst h;rfl
 |x::l,c,h=>by
  obtain ⟨a,b,rfl,h1,h2⟩:=h
  simp[IV.freshs_append,R.fresh h1,rows_fresh h2]
theorem rows_weak{R:Rep α}{f:Bool}:∀ {l:List α} {c:List IV},rows R f c l→rows R false c l
 |[],c,h=>h
 |x::l,c,h=>by
  obtain ⟨a,b,rfl,h1,h2⟩:=h
  exact ⟨_,_,rfl,R.weak h1,rows_weak h2⟩
theorem rows_split{R:Rep α}{f:Bool}:∀ {l:List α} {c:List IV} (n:Nat),rows R f c l→rows R f (c.take (n*R.sz)) (l.take n)∧rows R f (c.drop (n*R.sz)) (l.drop n)
 |[],c,n,h=>by simp only[rows] at h;subst h;simp[rows]
 |x::l,c,0,h=>by simp[rows] at h ⊢;exact h
 |x::l,c,n+1,h=>by
  obtain ⟨a,b,rfl,h1,h2⟩:=h
  have ih:=rows_split n h2
  have hl:=R.len h1
  have e:(n+1)*R.sz=a.length+n*R.sz:=by rw[hl,Nat.succ_mul,Nat.add_comm]
  rw[e,List.take_length_add_append,List.drop_length_add_append]
  exact ⟨⟨a,_,rfl,h1,ih.1⟩,ih.2⟩
theorem rows_get{R:Rep α}{f:Bool}{l:List α}{c:List IV}{n:Nat}{x:α}(h:rows R f c l)(hx:l[n]?=some x):R.rp f ((c.drop (n*R.sz)).take R.sz) x:=by
 have h2:=(rows_split n h).2;obtain ⟨hn,rfl⟩:=List.getElem?_eq_some_iff.1 hx;rw[List.drop_eq_getElem_cons hn] at h2;obtain ⟨a,b,e,h3,_⟩:=h2;rw[e,← R.len h3,List.take_left];exact h3
theorem rows_set{R:Rep α}{f:Bool}{l:List α}{c d:List IV}{n:Nat}{x:α}(h:rows R f c l)(hn:n<l.length)(hx:R.rp f d x):rows R f (c.take (n*R.sz)++d++c.drop ((n+1)*R.sz)) (l.set n x):=by
 have h1:=(rows_split n h).1;have h2:=(rows_split (n+1) h).2;have e:l.set n x=l.take n++[x]++l.drop (n+1):=by
  rw[List.set_eq_take_append_cons_drop,if_pos hn];simp
 rw[e];exact rows_append h2 (rows_append (rows_one hx) h1)
theorem rows_replicate{R:Rep α}{f:Bool}{c:List IV}{x:α}(h:R.rp f c x):∀ n:Nat,rows R f (List.replicate n c).flatten (List.replicate n x)
 |0=>rfl
 |n+1=>⟨c,_,by simp[List.replicate_succ],h,rows_replicate h n⟩
theorem repC_flat(z:List IV):∀ n,repC n z=((List.replicate n z).flatten).map I
 |0=>rfl
 |n+1=>by simp[repC,repC_flat z n,List.replicate_succ]
def sv(R:Rep α)(f:Bool)(v:IV)(l:List α):Prop :=
  (v=.nilS∧l=[])∨(v=.emp∧l=[])∨∃ t c,v=.lit t c l.length∧rows R f c l∧(f=true→t=0)
def Rep.list(R:Rep α):Rep (List α) where
  sz:=1
  rp:=fun f c l=>∃ v,c=[v]∧sv R f v l
  len:=by rintro f c x ⟨v,rfl,_⟩;rfl
  retag:=by
    rintro f c x ⟨v,rfl,h⟩
    refine ⟨v.retag 1,rfl,?_⟩
    rcases h with ⟨rfl,rfl⟩|⟨rfl,rfl⟩|⟨t,c,rfl,h1,h2⟩
    · exact .inl ⟨rfl,rfl⟩
    · exact .inr (.inl ⟨rfl,rfl⟩)
    · exact .inr (.inr ⟨1,_,rfl,rows_retag h1,by simp⟩)
  fresh:=by
    rintro c x ⟨v,rfl,h⟩
    rcases h with ⟨rfl,rfl⟩|⟨rfl,rfl⟩|⟨t,c,rfl,h1,h2⟩
    · rfl
    · rfl
    · simp[IV.freshs,IV.fresh,rows_fresh h1,h2 rfl]
  weak:=by
    rintro f c x ⟨v,rfl,h⟩
    refine ⟨v,rfl,?_⟩
    rcases h with ⟨rfl,rfl⟩|⟨rfl,rfl⟩|⟨t,c,rfl,h1,h2⟩
    · exact .inl ⟨rfl,rfl⟩
    · exact .inr (.inl ⟨rfl,rfl⟩)
    · exact .inr (.inr ⟨t,_,rfl,rows_weak h1,by simp⟩)
theorem sv_nil(R:Rep α)(f:Bool):sv R f .nilS []:=.inl ⟨rfl,rfl⟩
theorem sv_lit{R:Rep α}{c:List IV}{l:List α}{n:Nat}(f:Bool)(h:rows R f c l)(hn:n=l.length):sv R f (.lit 0 c n) l:=.inr (.inr ⟨0,c,by rw[hn],h,fun _=>rfl⟩)
theorem sv_retag{R:Rep α}{f:Bool}{v:IV}{l:List α}(h:sv R f v l):sv R false (v.retag 1) l:=by
 obtain ⟨w,e,h⟩:=R.list.retag (f:=f) (c:=[v]) (x:=l) ⟨v,rfl,h⟩;simp[IV.retags] at e;rw[e];exact h
theorem sv_fresh{R:Rep α}{v:IV}{l:List α}(h:sv R true v l):v.fresh=true:=by
 have:=R.list.fresh (c:=[v]) (x:=l) ⟨v,rfl,h⟩
 simpa[IV.freshs] using this
def so(P:List Nat)(R:Rep α)(f:Bool)(hp:Heap)(a:AC)(l:List α):Prop :=
  (a=I .nilS∧l=[])∨(a=I .emp∧l=[]) ∨
    ∃ (b g off:Nat) (cs c:List IV),b∈P∧a=.r (.sl b g off R.sz l.length)∧hp.row b g=some (cs.map I)∧rows R f c l∧off+l.length*R.sz≤cs.length∧(cs.drop off).take (l.length*R.sz)=c
def sa(P:List Nat)(R:Rep α)(f:Bool)(hp:Heap)(a:AC)(l:List α):Prop :=
  (∃ v,a=I v∧sv R f v l)∨so P R f hp a l
theorem so.any{P:List Nat}{R:Rep α}{f:Bool}{hp:Heap}{a:AC}{l:List α}(h:so P R f hp a l):sa P R f hp a l:=.inr h
theorem sv.any{R:Rep α}{f:Bool}{v:IV}{l:List α}(P:List Nat)(hp:Heap)(h:sv R f v l):sa P R f hp (I v) l:=.inl ⟨v,rfl,h⟩
theorem so_nil(P:List Nat)(R:Rep α)(f:Bool)(hp:Heap):so P R f hp (I .nilS) []:=.inl ⟨rfl,rfl⟩
def Fr(P:List Nat)(hp hp':Heap):Prop:=∀ b,b∉P→hp'.get b=hp.get b
theorem Fr.refl(P:List Nat)(hp:Heap):Fr P hp hp:=fun _ _=>rfl
theorem Fr.set(b:Nat)(x:Blk)(hp:Heap):Fr [b] hp (hp.set b x):=fun c hc=>by rw[Heap.get_set];simp at hc;simp[hc]
theorem Fr.row{P:List Nat}{hp hp':Heap}(h:Fr P hp hp'){b g:Nat}(hb:b∉P):hp'.row b g=hp.row b g:=by simp[Heap.row,h b hb]
theorem so.fr{P Q:List Nat}{R:Rep α}{f:Bool}{hp hp':Heap}{a:AC}{l:List α}(h:so P R f hp a l)(k:Fr Q hp hp')(hd:P.all (fun b=>!Q.contains b)=true):so P R f hp' a l:=by
 rcases h with h|h|⟨b,g,off,cs,c,hb,h1,h2,h3⟩
 ·exact .inl h
 ·exact .inr (.inl h)
 ·have:=List.all_eq_true.1 hd b hb
  exact .inr (.inr ⟨b,g,off,cs,c,hb,h1,by rw[k.row (by simpa using this)];exact h2,h3⟩)
theorem sa.fr{P Q:List Nat}{R:Rep α}{f:Bool}{hp hp':Heap}{a:AC}{l:List α}(h:sa P R f hp a l)(k:Fr Q hp hp')(hd:P.all (fun b=>!Q.contains b)=true):sa P R f hp' a l:=by
 rcases h with h|h
 ·exact .inl h
 ·exact .inr (h.fr k hd)
theorem so.wide{P Q:List Nat}{R:Rep α}{f:Bool}{hp:Heap}{a:AC}{l:List α}(h:so P R f hp a l)(hd:P.all (Q.contains ·)=true):so Q R f hp a l:=by
 rcases h with h|h|⟨b,g,off,cs,c,hb,h1,h2,h3⟩
 ·exact .inl h
 ·exact .inr (.inl h)
 ·have:=List.all_eq_true.1 hd b hb
  exact .inr (.inr ⟨b,g,off,cs,c,by simpa using this,h1,h2,h3⟩)
theorem sa.cells{P:List Nat}{R:Rep α}{f:Bool}{hp:Heap}{a:AC}{l:List α}(h:sa P R f hp a l):∃ c,rows R f c l∧slCells hp R.sz a=some (c.map I,l.length):=by
 rcases h with ⟨v,rfl,⟨rfl,rfl⟩|⟨rfl,rfl⟩|⟨t,c,rfl,h1,_⟩⟩|⟨rfl,rfl⟩|⟨rfl,rfl⟩|⟨b,g,off,cs,c,hb,rfl,h2,h3,h4,h5⟩
 ·exact ⟨[],rfl,rfl⟩
 ·exact ⟨[],rfl,rfl⟩
 ·exact ⟨c,h1,by simp[slCells,rows_len h1]⟩
 ·exact ⟨[],rfl,rfl⟩
 ·exact ⟨[],rfl,rfl⟩
 ·exact ⟨c,h3,by simp[slCells,h2,h4,← List.map_drop,← List.map_take,h5]⟩
theorem rd_rows{q:Nat→Bool}{hp:Heap}{t n b g off sz len:Nat}{cs:List IV}{c:List IV}(hq:q b=true)(h2:hp.row b g=some (cs.map I))(h4:off+len*sz≤cs.length)(h5:(cs.drop off).take (len*sz)=c) :
  rd q hp t (n+1) (.r (.sl b g off sz len))=some (.lit t c len):=by
 simp only[rd,hq,if_true,h2,List.length_map,h4,← List.map_drop,← List.map_take,h5,rd_inls]
theorem sa.lend{P:List Nat}{R:Rep α}{f:Bool}{hp:Heap}{a:AC}{l:List α}(h:sa P R f hp a l)(ids:List Nat)(hi:P.all (fun b=>!ids.contains b)=true):∃ v,to1 true hp ids (.c a)=some (.c (I v))∧sv R false v l:=by
 rcases h with ⟨v,rfl,h⟩|⟨rfl,rfl⟩|⟨rfl,rfl⟩|⟨b,g,off,cs,c,hb,rfl,h2,h3,h4,h5⟩
 ·exact ⟨v.retag 1,rfl,sv_retag h⟩
 ·exact ⟨.nilS,rfl,.inl ⟨rfl,rfl⟩⟩
 ·exact ⟨.emp,rfl,.inr (.inl ⟨rfl,rfl⟩)⟩
 ·have hn:∀ {ids:List Nat} {b:Nat},b∉ids→idxOf ids b=none:=by
   intro ids b;induction ids with
   |nil=>intro _;rfl
   |cons k ids ih=>intro hh;simp at hh;simp[idxOf,Ne.symm hh.1,ih hh.2]
  have hb':b∉ids:=by have:=List.all_eq_true.1 hi b hb;simpa using this
  have hr:rd (fun b=>(idxOf ids b).isNone) hp 1 rdDepth (.r (.sl b g off R.sz l.length))=some (.lit 1 c l.length):=rd_rows (n:=5) (by simp[hn hb']) h2 h4 h5;refine ⟨(IV.lit 1 c l.length).retag 1,?_,sv_retag (f:=false) (.inr (.inr ⟨1,c,rfl,rows_weak h3,by simp⟩))⟩;simp[to1,toC,toR,hn hb'];simp[hr]
theorem sa.back{P:List Nat}{R:Rep α}{f:Bool}{hp:Heap}{a:AC}{l:List α}(h:sa P R f hp a l)(lent:Bool)(hl:lent=true→f=true)(pl:List (Nat×Nat×Nat))(hpl:P.all (fun b=>(backAt pl b).isNone)=true) :
  ∃ v,backC hp pl lent a=some (I v)∧sv R f v l:=by
 have hfr:∀ v,sv R f v l→(lent&&!v.fresh)=false:=fun v hv=>by
  cases lent with
  |false=>rfl
  |true=>have:=hl rfl;subst this;simp[sv_fresh hv]
 rcases h with ⟨v,rfl,h⟩|⟨rfl,rfl⟩|⟨rfl,rfl⟩|⟨b,g,off,cs,c,hb,rfl,h2,h3,h4,h5⟩
 ·exact ⟨v,by simp[backC,backR,hfr v h],h⟩
 ·exact ⟨.nilS,by simp[backC,backR,IV.fresh],.inl ⟨rfl,rfl⟩⟩
 ·exact ⟨.emp,by simp[backC,backR,IV.fresh],.inr (.inl ⟨rfl,rfl⟩)⟩
 ·have hb':=List.all_eq_true.1 hpl b hb
  have hr:rd (fun b=>(backAt pl b).isNone) hp 0 rdDepth (.r (.sl b g off R.sz l.length))=some (.lit 0 c l.length):=rd_rows (n:=5) hb' h2 h4 h5;have hv:sv R f (.lit 0 c l.length) l:=.inr (.inr ⟨0,c,rfl,h3,fun _=>rfl⟩);refine ⟨.lit 0 c l.length,?_,hv⟩;simp at hb';have hf:=hfr _ hv;simp[backC,backR,hb',hr,hf]
theorem backC_inl{hp:Heap}{pl:List (Nat×Nat×Nat)}{lent:Bool}{v:IV}(h:lent=true→v.fresh=true):backC hp pl lent (I v)=some (I v):=by
 have:(lent&&!v.fresh)=false:=by cases lent<;>simp;exact h rfl
 simp[backC,backR,this]
end
def idx{α:Type}(l:List α)(n:Int):Option α:=if 0≤n then l[n.toNat]? else none
def sub{α:Type}(l:List α)(a b:Int):Option (List α):=if 0≤a∧a≤b∧b≤l.length then some ((l.take b.toNat).drop a.toNat) else none
def app{α:Type}(bytes:Nat)(l m:List α):Option (List α):=if (l.length+m.length)*bytes≤17592186044416∧l.length+m.length≤17592186044416 then some (l++m) else none
def mkN{α:Type}(bytes:Nat)(n:Int)(x:α):Option (List α):=if 0≤n∧bytes*n.toNat≤70368744177664∧n≤70368744177664 then some (List.replicate n.toNat x) else none
def sadd(a b:List UInt8):Option (List UInt8):=if a.length+b.length≤4611686018427387904 then some (a++b) else none
def gquo(k:IntKind)(a b:Int):Option Int:=if b=0 then none else some (k.wrap (a.tdiv b))
def grem(a b:Int):Option Int:=if b=0 then none else some (a.tmod b)
def gshl(k:IntKind)(a b:Int):Option Int:=if b<0 then none else some (k.wrap (a*2 ^ (min b.toNat k.bits)))
def gshr(k:IntKind)(a b:Int):Option Int:=if b<0 then none else some (a.fdiv (2 ^ (min b.toNat k.bits)))
def gand(k:IntKind)(a b:Int):Int:=k.wrap (BitVec.ofInt k.bits a &&& BitVec.ofInt k.bits b).toNat
def gor(k:IntKind)(a b:Int):Int:=k.wrap (BitVec.ofInt k.bits a ||| BitVec.ofInt k.bits b).toNat
theorem idx_is{α:Type}{l:List α}{n:Int}{x:α}(h:idx l n=some x):0≤n∧n.toNat<l.length∧l[n.toNat]?=some x:=by
 unfold idx at h;split at h
 ·exact ⟨by assumption,(List.getElem?_eq_some_iff.1 h).1,h⟩
 ·simp at h
def ldc(n:Nat)(agg:Bool)(off:Nat)(cells:List AC):Option A1:=match takeN n (cells.drop off) with
  |some cs=>mk1 agg cs
  |none=>none
def stc(off n:Nat)(cells new:List AC):Option (List AC):=if new.length=n∧off+n≤cells.length then some (lay cells off new) else none
section
variable {nt:Nat} {σ:Sl} {hp:Heap} {ct d:Nat} {G:Nat→List IV} {R:Run} {Q:Sl→Heap→Nat→Prop} {l:List Ins}
theorem k_op{dd:Option Nat}{k:K}{v:AV}{hp':Heap}{ct':Nat}(h:opK G R (mkS nt σ hp ct) (dd.getD 0) k=some (v,hp',ct'))(n:wpL G R nt l Q (updO σ dd v) hp' ct'):wpL G R nt (.op dd none k::l) Q σ hp ct:=by
 simp only[wpL,wantσ_none,guardO_true,h,wpK_some];exact n
theorem k_nil(h:Q σ hp ct):wpL G R nt [] Q σ hp ct:=h
theorem k_yes{dd:Option Nat}{k:K}{t:Nat}{b:Bool}(hg:evσ nt σ (.t t)=V (.bool b))(n:wpL G R nt (.op dd none k::l) Q σ hp ct):wpL G R nt (.op dd (some (t,b)) k::l) Q σ hp ct:=by
 have e:wantσ nt σ (some (t,b))=some true:=by simp only[wantσ,hg];simp
 simp only[wpL,wantσ_none,e] at n ⊢;exact n
theorem k_no{dd:Option Nat}{k:K}{t:Nat}{b c:Bool}(hg:evσ nt σ (.t t)=V (.bool c))(hc:(c==b)=false)(n:wpL G R nt l Q (updO σ dd .skp) hp ct):wpL G R nt (.op dd (some (t,b)) k::l) Q σ hp ct:=by
 have e:wantσ nt σ (some (t,b))=some false:=by simp only[wantσ,hg,hc]
 simp only[wpL,e,guardO_false,wpK_some];exact n
theorem k_noS{dd:Option Nat}{k:K}{t:Nat}{b:Bool}(hg:evσ nt σ (.t t)=.skp)(n:wpL G R nt l Q (updO σ dd .skp) hp ct):wpL G R nt (.op dd (some (t,b)) k::l) Q σ hp ct:=by
 have e:wantσ nt σ (some (t,b))=some false:=by simp only[wantσ,hg]
 simp only[wpL,e,guardO_false,wpK_some];exact n
theorem wpL_mono{Q':Sl→Heap→Nat→Prop}(hQ:∀ σ hp ct,Q σ hp ct→Q' σ hp ct):∀ {l:List Ins} {σ:Sl} {hp:Heap} {ct:Nat},wpL G R nt l Q σ hp ct→wpL G R nt l Q' σ hp ct
 |[],_,_,_,h=>hQ _ _ _ h
 |.op dd g k::l,σ,hp,ct,h=>by
  simp only[wpL] at h ⊢
  unfold wpK at h ⊢
  split at h
  ·exact wpL_mono hQ h
  ·exact h.elim
 |.kill a b::l,σ,hp,ct,h=>by
  simp only[wpL] at h ⊢
  obtain ⟨σ',hp',ct',h1,h2⟩:=h
  exact ⟨σ',hp',ct',h1,wpL_mono hQ h2⟩
 |.frz a::l,σ,hp,ct,h=>by
  simp only[wpL] at h ⊢
  obtain ⟨σ',hp',ct',h1,h2⟩:=h
  exact ⟨σ',hp',ct',h1,wpL_mono hQ h2⟩
theorem wpL_app{l2:List Ins}:∀ {l1:List Ins} {σ:Sl} {hp:Heap} {ct:Nat},wpL G R nt l1 (fun σ hp ct=>wpL G R nt l2 Q σ hp ct) σ hp ct→wpL G R nt (l1++l2) Q σ hp ct
 |[],_,_,_,h=>h
 |.op dd g k::l,σ,hp,ct,h=>by
  simp only[wpL,List.cons_append] at h ⊢
  unfold wpK at h ⊢
  split at h
  ·exact wpL_app h
  ·exact h.elim
 |.kill a b::l,σ,hp,ct,h=>by
  simp only[wpL,List.cons_append] at h ⊢
  obtain ⟨σ',hp',ct',h1,h2⟩:=h
  exact ⟨σ',hp',ct',h1,wpL_app h2⟩
 |.frz a::l,σ,hp,ct,h=>by
  simp only[wpL,List.cons_append] at h ⊢
  obtain ⟨σ',hp',ct',h1,h2⟩:=h
  exact ⟨σ',hp',ct',h1,wpL_app h2⟩
theorem k_mid{l1 l2:List Ins}(M:Sl→Heap→Nat→Prop)(h1:wpL G R nt l1 M σ hp ct)(h2:∀ σ' hp' ct',M σ' hp' ct'→wpL G R nt l2 Q σ' hp' ct'):wpL G R nt (l1++l2) Q σ hp ct :=
 wpL_app (wpL_mono (fun _ _ _ h=>h2 _ _ _ h) h1)
theorem k_mov{x:Opd}{a:A1}(h:evσ nt σ x=.v a)(n:wpL G R nt l Q (upd σ d (.v a)) hp ct):wpL G R nt (.op (some d) none (.mov x)::l) Q σ hp ct:=k_op (by rw[x_mov,h];rfl) n
theorem k_pickT{c x y:Opd}{a:A1}(hc:evσ nt σ c=V (.bool true))(h:evσ nt σ x=.v a)(n:wpL G R nt l Q (upd σ d (.v a)) hp ct):wpL G R nt (.op (some d) none (.pick c x y)::l) Q σ hp ct:=k_op (by rw[x_pick,hc,h];rfl) n
theorem k_pickF{c x y:Opd}{a:A1}(hc:evσ nt σ c=V (.bool false))(h:evσ nt σ y=.v a)(n:wpL G R nt l Q (upd σ d (.v a)) hp ct):wpL G R nt (.op (some d) none (.pick c x y)::l) Q σ hp ct:=k_op (by rw[x_pick,hc,h];rfl) n
theorem k_bin{op:BinOp}{x y:Opd}{a b:AV}{v:IV}(hx:evσ nt σ x=a)(hy:evσ nt σ y=b)(hv:binV op a b=some v)(n:wpL G R nt l Q (upd σ d (V v)) hp ct):wpL G R nt (.op (some d) none (.bin op x y)::l) Q σ hp ct:=k_op (by rw[x_bin,hx,hy,hv];rfl) n
theorem k_quo{x y:Opd}{k:IntKind}{a b q:Int}(hx:evσ nt σ x=V (.int k a))(hy:evσ nt σ y=V (.int k b))(e:gquo k a b=some q)(n:wpL G R nt l Q (upd σ d (V (.int k q))) hp ct):wpL G R nt (.op (some d) none (.bin .quo x y)::l) Q σ hp ct :=
 k_bin hx hy (by unfold gquo at e;split at e<;>simp_all [binV,intBin,V]) n
theorem k_rem{x y:Opd}{k:IntKind}{a b q:Int}(hx:evσ nt σ x=V (.int k a))(hy:evσ nt σ y=V (.int k b))(e:grem a b=some q)(n:wpL G R nt l Q (upd σ d (V (.int k q))) hp ct):wpL G R nt (.op (some d) none (.bin .rem x y)::l) Q σ hp ct :=
 k_bin hx hy (by unfold grem at e;split at e<;>simp_all [binV,intBin,V]) n
theorem k_shl{x y:Opd}{k k':IntKind}{a b q:Int}(hx:evσ nt σ x=V (.int k a))(hy:evσ nt σ y=V (.int k' b))(e:gshl k a b=some q)(n:wpL G R nt l Q (upd σ d (V (.int k q))) hp ct):wpL G R nt (.op (some d) none (.bin .shl x y)::l) Q σ hp ct :=
 k_bin hx hy (by unfold gshl at e;split at e<;>simp_all [binV,shiftBin,V]) n
theorem k_shr{x y:Opd}{k k':IntKind}{a b q:Int}(hx:evσ nt σ x=V (.int k a))(hy:evσ nt σ y=V (.int k' b))(e:gshr k a b=some q)(n:wpL G R nt l Q (upd σ d (V (.int k q))) hp ct):wpL G R nt (.op (some d) none (.bin .shr x y)::l) Q σ hp ct :=
 k_bin hx hy (by unfold gshr at e;split at e<;>simp_all [binV,shiftBin,V]) n
theorem k_sadd{x y:Opd}{a b q:List UInt8}(hx:evσ nt σ x=V (.str a))(hy:evσ nt σ y=V (.str b))(e:sadd a b=some q)(n:wpL G R nt l Q (upd σ d (V (.str q))) hp ct):wpL G R nt (.op (some d) none (.bin .add x y)::l) Q σ hp ct :=
 k_bin hx hy (by unfold sadd at e;split at e<;>simp_all [binV,strBin,V]) n
theorem k_not{x:Opd}{a:Bool}(hx:evσ nt σ x=V (.bool a))(n:wpL G R nt l Q (upd σ d (V (.bool !a))) hp ct):wpL G R nt (.op (some d) none (.un .not x)::l) Q σ hp ct:=k_op (by rw[x_un_not,hx];rfl) n
theorem k_cvI{k:IntKind}{x:Opd}{k':IntKind}{a:Int}(hx:evσ nt σ x=V (.int k' a))(n:wpL G R nt l Q (upd σ d (V (.int k (k.wrap a)))) hp ct):wpL G R nt (.op (some d) none (.cvI k x)::l) Q σ hp ct:=k_op (by rw[x_cvI,hx];rfl) n
def runeStr(n:Int):List UInt8:=(Utf8.encode n).data.toList
theorem k_cvIS{x:Opd}{k:IntKind}{a:Int}(hx:evσ nt σ x=V (.int k a))(n:wpL G R nt l Q (upd σ d (V (.str (runeStr a)))) hp ct):wpL G R nt (.op (some d) none (.cvIS x)::l) Q σ hp ct:=k_op (by simp only[opK,step,ev_mk,hx];rfl) n
theorem k_ext{x:Opd}{i:Nat}{as:List A1}{v:A1}(hx:evσ nt σ x=.tup as)(hv:as[i]?=some v)(n:wpL G R nt l Q (upd σ d (.v v)) hp ct):wpL G R nt (.op (some d) none (.ext x i)::l) Q σ hp ct:=k_op (by rw[x_ext,hx];simp only[hv];rfl) n
theorem k_lenS{x:Opd}{a:List UInt8}(hx:evσ nt σ x=V (.str a))(n:wpL G R nt l Q (upd σ d (V (.int .i64 a.length))) hp ct):wpL G R nt (.op (some d) none (.len 0 x)::l) Q σ hp ct:=k_op (by rw[x_len,hx];rfl) n
theorem k_idxS{x i:Opd}{a:List UInt8}{k:IntKind}{n:Int}{c:UInt8}(hx:evσ nt σ x=V (.str a))(hi:evσ nt σ i=V (.int k n))(e:idx a n=some c)(nx:wpL G R nt l Q (upd σ d (V (.int .u8 c.toNat))) hp ct):wpL G R nt (.op (some d) none (.idxS x i)::l) Q σ hp ct:=by
 obtain ⟨h1,h2,h3⟩:=idx_is e;refine k_op ?_ nx;rw[x_idxS,hx,hi];simp only[AV.strv,V,AV.nat,AV.int,h1,if_true,h3]
/- Blocks of plain cells: variables in memory. -/
theorem k_alloc{cs:List IV}(n:∀ g hp',hp'.get d=some (.cells g (cs.map I))→Fr [d] hp hp'→wpL G R nt l Q (upd σ d (.v (.c (.r (.ptr d g 0))))) hp' (ct+1)):wpL G R nt (.op (some d) none (.alloc cs)::l) Q σ hp ct :=
 k_op (x_alloc cs) (n _ _ (by rw[Heap.get_set];simp) (Fr.set _ _ _))
theorem k_box{m:Nat}{x:Opd}{a:A1}(hx:evσ nt σ x=.v a)(hm:a.cells.length=m)(n:∀ g hp',hp'.get d=some (.cells g a.cells)→Fr [d] hp hp'→wpL G R nt l Q (upd σ d (.v (.c (.r (.ptr d g 0))))) hp' (ct+1)):wpL G R nt (.op (some d) none (.box m x)::l) Q σ hp ct :=
 k_op (by rw[x_box,hx];simp only[hm,if_true];rfl) (n _ _ (by rw[Heap.get_set];simp) (Fr.set _ _ _))
theorem row_of{b g:Nat}{cs:List AC}(h:hp.get b=some (.cells g cs)):hp.row b g=some cs:=by simp[Heap.row,h]
theorem cur_of{b g:Nat}{cs:List AC}(h:hp.get b=some (.cells g cs)):hp.cur b=some g:=by simp[Heap.cur,h,Blk.gen]
theorem k_loadB{m:Nat}{agg:Bool}{x:Opd}{b g off:Nat}{cs:List AC}{v:A1}(hx:evσ nt σ x=.v (.c (.r (.ptr b g off))))(hb:hp.get b=some (.cells g cs))(hv:ldc m agg off cs=some v)(n:wpL G R nt l Q (upd σ d (.v v)) hp ct):wpL G R nt (.op (some d) none (.load m agg x)::l) Q σ hp ct :=
 k_op (by
  rw[x_load,hx]
  unfold ldc at hv
  simp only[lookAt,row_of hb]
  cases ht:takeN m (cs.drop off) with
  |none=>rw[ht] at hv;simp at hv
  |some c=>rw[ht] at hv;simp only at hv ⊢;rw[hv];rfl) n
theorem k_storeB{m:Nat}{x y:Opd}{b g off:Nat}{cs cs':List AC}{w:A1}(hx:evσ nt σ x=.v (.c (.r (.ptr b g off))))(hy:evσ nt σ y=.v w)(hb:hp.get b=some (.cells g cs))(hv:stc off m cs w.cells=some cs')
  (n:∀ hp',hp'.get b=some (.cells g cs')→Fr [b] hp hp'→wpL G R nt l Q σ hp' ct):wpL G R nt (.op none none (.store m x y)::l) Q σ hp ct:=by
 unfold stc at hv;split at hv
 ·rename_i hc
  have hv:=Option.some.inj hv;refine k_op (hp':=hp.set b (.cells g cs')) (v:=.und) (ct':=ct) ?_ (n _ (by rw[Heap.get_set];simp) (Fr.set _ _ _));rw[x_store,hx,hy];simp only[row_of hb];rw[if_pos hc,hv]
 ·simp at hv
theorem k_fadrB{o:Nat}{x:Opd}{b g off:Nat}{cs:List AC}(hx:evσ nt σ x=.v (.c (.r (.ptr b g off))))(hb:hp.get b=some (.cells g cs))(n:wpL G R nt l Q (upd σ d (.v (.c (.r (.ptr b g (off+o)))))) hp ct):wpL G R nt (.op (some d) none (.fadr o x)::l) Q σ hp ct :=
 k_op (by rw[x_fadr,hx];simp only[cur_of hb,if_true]) n
theorem k_nilB{x:Opd}{b g off:Nat}{cs:List AC}(hx:evσ nt σ x=.v (.c (.r (.ptr b g off))))(hb:hp.get b=some (.cells g cs))(n:wpL G R nt l Q (upd σ d (.v (.c (.r (.ptr b g off))))) hp ct):wpL G R nt (.op (some d) none (.nilchk x)::l) Q σ hp ct :=
 k_op (by rw[x_nilchk,hx];simp only[cur_of hb,if_true]) n
end
end Go.Abs
