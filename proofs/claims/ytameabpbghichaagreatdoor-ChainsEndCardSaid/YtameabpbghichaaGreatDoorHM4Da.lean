/-
  Circles: its small code; where lines lead to, in a map.
-/
import Derived.Test.YtameabpbghichaaGreatDoorHM4Sd
import Derived.Test.YtameabpbghichaaGreatDoorHM4Absc
import Derived.Test.YtameabpbghichaaGreatDoorHM4Absd
namespace Go.Proofs.YtameabpbghichaaGreatDoor
open Go Go.Abs Go.Abs.Sh
set_option maxRecDepth 100000
set_option maxHeartbeats 8000000
def irB15_1:IR:=.seq (.reg [.op (some 15) none (.load 2 true (.t 2)),.op (some 16) none (.mov (.t 1)),.op (some 17) none (.call 51 [.t 15,.t 16] {give:=[],ad:=[],pure:=true}),.op (some 6) none (.mov (.t 17))]) (.seq (.reg [.op (some 18) none (.mov (.t 6)),.op (some 19) none (.bin .neq (.t 18) (.c (.int .i64 0)))]) (.cond (.t 19) (.seq (.reg [.op (some 20) none (.mov (.t 6)),.op (some 4) none (.mov (.c (.nilS))),.op (some 5) none (.mov (.t 20))]) (.ret)) (.skip)))
def irB15_2:IR:=.block 1 (.seq (.reg [.op (some 26) none (.iadr 4 (.t 22) (.t 24)),.op (some 27) none (.load 4 true (.t 26)),.op (some 9) none (.alloc [.str [],.int .i64 0,.str [],.str []]),.op none none (.store 4 (.t 9) (.t 27))]) (.regD [.op (some 28) none (.mov (.t 7)),.op (some 29) none (.fadr 0 (.t 9)),.op (some 30) none (.load 1 false (.t 29)),.op (some 31) none (.mov (.t 7)),.op (some 32) none (.fadr 0 (.t 9)),.op (some 33) none (.load 1 false (.t 32)),.op (some 34) none (.lkp 1 [.nilS] false false (.t 31) (.t 33)),.op (some 35) none (.fadr 2 (.t 9)),.op (some 36) none (.load 1 false (.t 35)),.op (some 37) none (.bsl 1 1 [.str []] [(0,.t 36)] false),.op (some 38) none (.app 1 16 false (.t 34) (.t 37)),.op none none (.mupd 1 (.t 28) (.t 30) (.t 38))] [[],[],[1],[],[],[4],[3,4,5],[],[7],[7,8],[3,4,5,6,7,8,9],[0,1,2,3,4,5,6,7,8,9,10]]))
def irB15_3:IR:=.seq (.reg [.op (some 46) none (.mkmap),.op (some 12) none (.mov (.t 46))]) (.seq (.seq (.reg [.op (some 47) none (.mov (.t 7)),.op (some 48) none (.mov (.t 11)),.op (some 49) none (.lkp 1 [.nilS] false false (.t 47) (.t 48)),.kill [] [50],.op (some 50) none (.call 43 [.t 49] {give:=[],ad:=[(PB,50)],pure:=false}),.op (some 13) none (.mov (.t 50))]) (.block 4 (.loop (.seq (.seq (.reg [.op (some 51) none (.mov (.t 13)),.op (some 52) none (.len 1 (.t 51)),.op (some 53) none (.bin .gtr (.t 52) (.c (.int .i64 0)))]) (.cond (.t 53) (.skip) (.exit 4))) (.seq (.block 5 (.seq (.reg [.op (some 56) none (.mov (.t 13)),.op (some 57) none (.iadr 1 (.t 56) (.c (.int .i64 0))),.op (some 58) none (.load 1 false (.t 57)),.op (some 14) none (.mov (.t 58))]) (.seq (.reg [.op (some 59) none (.mov (.t 12)),.op (some 60) none (.mov (.t 14)),.op (some 61) none (.lkp 1 [.bool false] false false (.t 59) (.t 60)),.op (some 62) none (.un .not (.t 61))]) (.cond (.t 62) (.seq (.reg [.op (some 63) none (.mov (.t 12)),.op (some 64) none (.mov (.t 14)),.op none none (.mupd 1 (.t 63) (.t 64) (.c (.bool true)))]) (.reg [.op (some 65) none (.mov (.t 13)),.op (some 66) none (.mov (.t 7)),.op (some 67) none (.mov (.t 14)),.op (some 68) none (.lkp 1 [.nilS] false false (.t 66) (.t 67)),.op (some 69) none (.app 1 16 false (.t 65) (.t 68)),.op (some 13) none (.mov (.t 69))])) (.skip))))) (.reg [.op (some 54) none (.mov (.t 13)),.op (some 55) none (.slc 1 (.t 54) (some (.c (.int .i64 1))) none none),.op (some 13) none (.mov (.t 55))])))))) (.seq (.reg [.op (some 70) none (.mov (.t 12)),.op (some 71) none (.mov (.t 11)),.op (some 72) none (.lkp 1 [.bool false] false false (.t 70) (.t 71))]) (.cond (.t 72) (.reg [.op (some 73) none (.mov (.t 10)),.op (some 74) none (.mov (.t 11)),.op (some 75) none (.bsl 1 1 [.str []] [(0,.t 74)] false),.op (some 76) none (.app 1 16 false (.t 73) (.t 75)),.op (some 10) none (.mov (.t 76))]) (.skip))))
def irB15_4:IR:=.seq (.reg [.op (some 77) none (.mov (.t 10)),.op (some 78) none (.call 52 [.t 77] {give:=[(0,0)],ad:=[],pure:=false})]) (.seq (.reg [.op (some 79) none (.mov (.t 10)),.op (some 4) none (.mov (.t 79)),.op (some 5) none (.mov (.c (.int .i64 0))),.frz 4]) (.ret))
def ird15:FnS:={nt:=80,res:=[.tmp 4,.tmp 5],body:=.seq (.base (.reg [.op (some 2) none (.box 2 (.t 0)),.op (some 4) none (.mov (.c (.nilS))),.op (some 5) none (.mov (.c (.int .i64 0)))])) (.seq (.base irB15_1) (.seq (.base (.reg [.op (some 21) none (.mkmap),.op (some 7) none (.mov (.t 21))])) (.seq (.seq (.base (.reg [.op (some 22) none (.mov (.t 1)),.op (some 23) none (.len 1 (.t 22)),.op (some 24) none (.mov (.c (.int .i64 0)))])) (.block 0 (.loop (.seq (.base (.reg [.op (some 25) none (.bin .lss (.t 24) (.t 23))])) (.seq (.base (.cond (.t 25) (.skip) (.exit 0))) (.seq (.base irB15_2) (.reg [.rn 38 none,.ins (.op (some 39) none (.bin .add (.t 24) (.c (.int .i64 1)))),.ins (.op (some 24) none (.mov (.t 39)))]))))))) (.seq (.base (.reg [.op (some 10) none (.mov (.c (.nilS)))])) (.seq (.seq (.reg [.ins (.op (some 40) none (.mov (.t 7))),.rng 41 (.t 40)]) (.block 2 (.loop (.seq (.reg [.nx 42 (.t 41),.ins (.op (some 43) none (.ext (.t 42) 0))]) (.seq (.base (.cond (.t 43) (.skip) (.exit 2))) (.block 3 (.seq (.reg [.ent 44 (.t 41),.ins (.op (some 45) none (.ext (.t 44) 0)),.ins (.op (some 11) none (.mov (.t 45)))]) (.base irB15_3)))))))) (.base irB15_4))))))}
/-- One forward more. -/
def stepC(m:List (List UInt8×List (List UInt8)))(f:uT0):List (List UInt8×List (List UInt8)):=mput m f.Line ((mget m f.Line).getD []++[f.To])
def toM(l:List uT0):List (List UInt8×List (List UInt8)):=l.foldl stepC []
theorem toM_snoc{l:List uT0}{i:Nat}(hi:i<l.length):toM (l.take (i+1))=stepC (toM (l.take i)) l[i]:=by
  unfold toM
  rw[List.take_succ_eq_append_getElem hi,List.foldl_append]
  rfl
theorem toM_fold(x:List UInt8):∀ (l:List uT0) (m:List (List UInt8×List (List UInt8))),(mget (l.foldl stepC m) x).getD []=(mget m x).getD []++toC l x
  |[],m=>by simp[toC]
  |f::l,m=>by
    rw[List.foldl_cons,toM_fold x l]
    unfold stepC
    rw[mget_mput]
    by_cases h:f.Line=x
    · subst h
      simp[toC]
    · have h':(f.Line==x)=false:=by simpa using h
      simp[h,toC,h']
theorem toM_get(l:List uT0)(x:List UInt8):(mget (toM l) x).getD []=toC l x:=by
  unfold toM
  rw[toM_fold]
  simp[mget]
theorem mget_none_iff{κ β:Type}[DecidableEq κ]{m:List (κ×β)}{k:κ}:mget m k=none↔k∉m.map Prod.fst:=by
  induction m with
  |nil=>simp[mget]
  |cons p m ih =>
    obtain ⟨a,b⟩:=p
    simp only[mget,List.map_cons,List.mem_cons]
    by_cases h:a=k
    · simp[h]
    · have h':¬ k=a:=fun e=>h e.symm
      simp[h,h',ih]
theorem mput_keys{κ β:Type}[DecidableEq κ]{m:List (κ×β)}{k:κ}{v:β}:(mput m k v).map Prod.fst=if k∈m.map Prod.fst then m.map Prod.fst else m.map Prod.fst++[k]:=by
  induction m with
  |nil=>simp[mput]
  |cons p m ih =>
    obtain ⟨a,b⟩:=p
    simp only[mput]
    by_cases h:a=k
    · simp[h]
    · have h':¬ k=a:=fun e=>h e.symm
      simp only[h,if_false,List.map_cons,ih,List.mem_cons,h',false_or]
      split<;>rfl
theorem toM_keys(l:List uT0):(toM l).map Prod.fst=keysC l:=by
  have key:∀ (l:List uT0) (m:List (List UInt8×List (List UInt8))),(l.foldl stepC m).map Prod.fst=l.foldl (fun ks f=>if f.Line∈ks then ks else ks++[f.Line]) (m.map Prod.fst):=by
    intro l
    induction l with
    |nil=>intro m;rfl
    |cons f l ih =>
      intro m
      rw[List.foldl_cons,List.foldl_cons,ih]
      congr 1
      show List.map Prod.fst (mput m f.Line _)=_
      rw[mput_keys]
      by_cases h:f.Line∈m.map Prod.fst<;>simp only[h,if_true,if_false]
  exact key l []
theorem toC_len(l:List uT0)(x:List UInt8):(toC l x).length≤l.length:=by
  unfold toC
  rw[List.length_map]
  exact List.length_filter_le ..
def OF43(r:List (List UInt8)):List A1→Heap→Prop:=fun rs h=>∃ a,rs=[.c a]∧soN 5 Rep.str h a r
/-- A copy,as a whole block. -/
theorem of43{X:Run}[Up (xRun kx) X]{x0:List (List UInt8)}{vx0:IV}{r:List (List UInt8)}(hx0:sv Rep.str false vx0 x0)(h:uF43 x0=some r):ownC (L X) 43 [.c (I vx0)] [] (OF43 r):=by
  refine fn_own0 (fn:=ir43) rfl (Nat.le_of_ble_eq_true rfl) ?_
  unfold uF43 at h
  refine e_reg ?_
  refine k_mov rfl ?_
  refine k_nil ?_
  refine wpE_seq ?_
  refine e_reg ?_
  refine k_mov rfl ?_
  refine k_eqNil rfl (sv.any [] _ hx0) fun b1 g2=>?_
  refine k_nil ?_
  refine wpE_cond (p:=b1) rfl (fun g3=>?_) (fun g3=>?_)
  · have h:=nilc_t h (g2 g3)
    refine e_reg ?_
    refine k_mov rfl ?_
    refine k_nil ?_
    refine wpE_ret ?_
    obtain rfl:=Option.some.inj h
    exact e_own (ct:=0) (.tmp rfl .nil) ⟨_,rfl,.inl ⟨rfl,rfl⟩⟩
  · have h:=nilc_f h
    refine wpE_skip ?_
    show wpE _ _ _ _ _ _ _ _
    refine e_reg ?_
    refine k_bslN (cs:=[]) .nil (by decide) rfl fun hp6 k_b r8=>?_
    refine k_mov rfl ?_
    obtain ⟨y15,e16,h⟩:=obind h
    refine k_appF (E:=Rep.str) rfl k_b rfl (sv.any [] _ hx0) (fun _=>rows_strong (fun _ _ h=>h)) e16 rfl fun a10 hp11 ct12 o13 r14=>?_
    refine k_mov rfl ?_
    refine k_nil ?_
    refine wpE_ret ?_
    obtain rfl:=Option.some.inj h
    exact e_own (ct:=0) (.tmp rfl .nil) ⟨_,rfl,.inr o13⟩
theorem clone_eq{l:List (List UInt8)}(h:l.length≤1000000):uF43 l=some l:=by
  unfold uF43
  rw[app_of (by simp;omega) (by simp;omega)]
  rw[nilc_eq (fun e=>by subst e;rfl)]
  rfl
def big(b:Nat):Prop:=1000<b
/-- What a round comes to: the new line's block lies at its place yet,or an old one has grown. -/
def doneC(hp:Heap)(g:Nat)(m:List (List UInt8×List (List UInt8))):Prop :=
  (∃ x es clk,hp.get 38=some x∧mapS (fun b=>1000<b∨b=38) hp 21 g es clk m)∨(hp.get 38=none∧∃ es clk,mapS (fun b=>1000<b) hp 21 g es clk m)
def tagC(b:Nat):List (Ins×Tg):=[(.op (some 28) none (.mov (.t 7)),.n),(.op (some 29) none (.fadr 0 (.t 9)),.r [9]),(.op (some 30) none (.load 1 false (.t 29)),.r [9]),(.op (some 31) none (.mov (.t 7)),.n),(.op (some 32) none (.fadr 0 (.t 9)),.n),(.op (some 33) none (.load 1 false (.t 32)),.n),(.op (some 34) none (.lkp 1 [.nilS] false false (.t 31) (.t 33)),.n),(.op (some 35) none (.fadr 2 (.t 9)),.n),(.op (some 36) none (.load 1 false (.t 35)),.n),(.op (some 37) none (.bsl 1 1 [.str []] [(0,.t 36)] false),.n),(.op (some 38) none (.app 1 16 false (.t 34) (.t 37)),.t [b]),(.op none none (.mupd 1 (.t 28) (.t 30) (.t 38)),.t [21])]
def preC:List (List Nat):=[[],[],[1],[],[],[4],[3,4,5],[],[7],[7,8],[3,4,5,6,7,8,9],[0,1,2,3,4,5,6,7,8,9,10]]
theorem tagC_ok(b:Nat):drawTag (tagC (b+10)) preC=true:=by rfl
theorem preC_ok(b:Nat):drawStatic ((tagC b).map Prod.fst) preC=true:=by kernel_rfl
section
variable {X:Run}
theorem c_round{x1:List uT0}{vx1:IV}(hx1:sv uR0 false vx1 x1)(hlen:x1.length≤10000){i:Nat}(hi:i<x1.length){σ:Sl}{hp:Heap}{ct g clk:Nat}{es:List Ent}
    (f7:σ 7=.v (.c (.r (.map 21 g)))) (f22:σ 22=.v (.c (I vx1))) (f24:σ 24=V (.int .i64 (i:Int))) (h38:hp.get 38=none) (hm:mapS (fun b=>1000<b) hp 21 g es clk (toM (x1.take i))) :
    wpE tabs (L X) 80 irB15_2 σ hp ct (fun ex σ' hp' _=>ex=.normal∧Keep [9] 26 38 σ σ'∧doneC hp' g (toM (x1.take (i+1)))):=by
  unfold irB15_2
  refine wpE_block ?_
  refine e_reg ?_
  refine k_iadrL f22 (sv.any [] _ hx1) f24 (idx_at hi) rfl fun p26 c26 q26 h26=>?_
  obtain ⟨_,rfl⟩:=uR0.inv h26
  refine k_loadL rfl q26 rfl ?_
  refine k_alloc fun g9 hp9 k9 r9=>?_
  refine k_storeB rfl rfl k9 rfl fun hp10 k10 r10=>?_
  refine k_nil ?_
  have hm10:=(hm.fr r9 rfl fun b hb=>by have:1000<b:=hb;simp;omega).fr r10 rfl fun b hb=>by have:1000<b:=hb;simp;omega
  have h38':hp10.get 38=none:=by rw[r10 38 (by decide),r9 38 (by decide)];exact h38
  rw[toM_snoc hi]
  have hget:=toM_get (x1.take i) x1[i].Line
  have hlen2:((mget (toM (x1.take i)) x1[i].Line).getD []).length≤10000:=by
    rw[hget]
    have:=toC_len (x1.take i) x1[i].Line
    rw[List.length_take] at this
    omega
  rcases findS hm10.ents x1[i].Line with ⟨hq,hf⟩|⟨tos,e0,hq,he0,⟨hk0,b,gb,hv0,hb0,hc0⟩,hf⟩
  · -- a new line
    refine e_lastT (L:=tagC 38) (preC_ok 38) (tagC_ok 28) ?_
    refine t_n ?_
    refine k_mov f7 ?_
    refine k_nil ?_
    refine t_r (dep_fadr rfl (List.mem_singleton.2 rfl)) ?_
    refine k_fadrB (o:=0) rfl k10 ?_
    refine k_nil ?_
    refine t_r (dep_load rfl (List.mem_singleton.2 rfl)) ?_
    refine k_loadB rfl k10 rfl ?_
    refine k_nil ?_
    refine t_n ?_
    refine k_mov f7 ?_
    refine k_nil ?_
    refine t_n ?_
    refine k_fadrB (o:=0) rfl k10 ?_
    refine k_nil ?_
    refine t_n ?_
    refine k_loadB rfl k10 rfl ?_
    refine k_nil ?_
    refine t_n ?_
    refine k_lkpS rfl hm10 rfl fun a hl=>?_
    rcases hl with ⟨_,rfl,_⟩|⟨_,_,_,h1,_⟩
    rotate_left
    · rw[hq] at h1;cases h1
    refine k_nil ?_
    refine t_n ?_
    refine k_fadrB (o:=2) rfl k10 ?_
    refine k_nil ?_
    refine t_n ?_
    refine k_loadB rfl k10 rfl ?_
    refine k_nil ?_
    refine t_n ?_
    refine k_bslI (len:=1) (z:=IV.str []) (vs:=[IV.str x1[i].To]) (.cons rfl .nil) (by decide) rfl ?_
    refine k_nil ?_
    refine t_t ?_
    refine k_appN rfl rfl ?_
    refine k_nil ⟨Fr.set _ _ _,?_⟩
    have hm11:=hm10
    refine t_t ?_
    refine k_mupdA (b0:=21) (g:=g) (clk:=clk) (es:=es) (key:=x1[i].Line) rfl (by rw[Heap.get_set,if_neg (by decide)];exact hm10.get) rfl rfl hf ?_
    refine k_nil ⟨Fr.set _ _ _,?_⟩
    have H:=hm10.add (ct:=ct+1) (w:=x1[i].To) hq (bx:=38) (by decide) (by decide) (by decide)
    refine ⟨rfl,by repeat (first|exact Keep.refl _ _ _ _|refine Keep.upd ?_ rfl _),.inl ⟨.cells (ct+1) [I (.str x1[i].To)],_,_,?_,by unfold stepC;rw[hq];exact H⟩⟩
    rw[Heap.get_set,if_neg (by decide),Heap.get_set,if_pos rfl]
  · -- a line that was there
    have hb1:1000<b:=hb0
    obtain ⟨n,hn⟩:∃ n,b=n+10:=⟨b-10,by omega⟩
    refine e_lastT (L:=tagC b) (preC_ok b) (by rw[hn];exact tagC_ok n) ?_
    refine t_n ?_
    refine k_mov f7 ?_
    refine k_nil ?_
    refine t_r (dep_fadr rfl (List.mem_singleton.2 rfl)) ?_
    refine k_fadrB (o:=0) rfl k10 ?_
    refine k_nil ?_
    refine t_r (dep_load rfl (List.mem_singleton.2 rfl)) ?_
    refine k_loadB rfl k10 rfl ?_
    refine k_nil ?_
    refine t_n ?_
    refine k_mov f7 ?_
    refine k_nil ?_
    refine t_n ?_
    refine k_fadrB (o:=0) rfl k10 ?_
    refine k_nil ?_
    refine t_n ?_
    refine k_loadB rfl k10 rfl ?_
    refine k_nil ?_
    refine t_n ?_
    refine k_lkpS rfl hm10 rfl fun a hl=>?_
    rcases hl with ⟨h1,_⟩|⟨tos2,b2,g2,h1,rfl,h2,h3,h4,_⟩
    · rw[hq] at h1;cases h1
    rw[hq] at h1
    obtain rfl:=Option.some.inj h1
    rw[hf,hv0] at h4
    simp only[Option.some.injEq,A1.c.injEq,AC.r.injEq,AR.sl.injEq,true_and,and_true] at h4
    obtain ⟨rfl,rfl⟩:=h4
    refine k_nil ?_
    refine t_n ?_
    refine k_fadrB (o:=2) rfl k10 ?_
    refine k_nil ?_
    refine t_n ?_
    refine k_loadB rfl k10 rfl ?_
    refine k_nil ?_
    refine t_n ?_
    refine k_bslI (len:=1) (z:=IV.str []) (vs:=[IV.str x1[i].To]) (.cons rfl .nil) (by decide) rfl ?_
    refine k_nil ?_
    refine t_t ?_
    have hl2:(strsC tos).length=tos.length:=by simp[strsC]
    rw[hq] at hlen2
    refine k_appD (cs:=strsC tos) (w:=x1[i].To) (b:=b) (g:=gb) (by rw[hl2];rfl) h3 (by rw[hl2];simp at hlen2;omega) rfl ?_
    refine k_nil ⟨Fr.set _ _ _,?_⟩
    refine t_t ?_
    rw[hl2]
    refine k_mupdA (b0:=21) (g:=g) (clk:=clk) (es:=es) (key:=x1[i].Line) rfl (by rw[Heap.get_set,if_neg (by omega)];exact hm10.get) rfl rfl hf ?_
    refine k_nil ⟨Fr.set _ _ _,?_⟩
    have H:=hm10.upd (ct:=ct+1) (w:=x1[i].To) (g2:=gb) hq hb1 (by decide) ⟨e0,he0,hk0,hv0⟩
    refine ⟨rfl,by repeat (first|exact Keep.refl _ _ _ _|refine Keep.upd ?_ rfl _),.inr ⟨?_,_,_,by unfold stepC;rw[hq];exact H⟩⟩
    rw[Heap.get_set,if_neg (by decide),Heap.get_set,if_neg (by omega)]
    exact h38'
end
end Go.Proofs.YtameabpbghichaaGreatDoor
