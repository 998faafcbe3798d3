/-
 The small code of functions comes to the Lean functions. Printed by a program of mine.
-/
import Derived.Test.YtameabpbghichaaGreatDoorHM3F
import Derived.Test.YtameabpbghichaaGreatDoorHM3Absc
namespace Go.Proofs.YtameabpbghichaaGreatDoor
open Go Go.Abs
set_option maxRecDepth 100000
set_option maxHeartbeats 8000000
theorem s80 {X : Run} [Up (xRun kx) X] {x0 : Int} {x1 : Int} {r : Int}  (h : uF80 x0 x1 = some r) : pc (L X) 80 [.c (I (.int .i64 x0)),.c (I (.int .i64 x1))] true (P80 r):=by
 refine fn_pure (fn:=ir80) rfl (nlt rfl) fun lent hl=>?_;unfold uF80 at h;refine e_reg (k_mov rfl (k_nil (wpE_seq (e_reg (k_mov rfl (k_bin rfl rfl rfl (k_nil (wpE_cond (p:=(decide (x1 < ((1 : Int))))) rfl (fun g1=>?_) (fun g1=>?_)))))))))
 ·have h:=ctrue h g1
  refine e_reg (k_mov rfl (k_nil (wpE_ret ?_)));cases h
  exact e_ret (ct:=0) (.tmp rfl (back_sc rfl) .nil) rfl
 ·have h:=cfalse h g1
  refine wpE_skip (e_reg (k_mov rfl (k_mov rfl ?_)));obtain ⟨y2,e3,h⟩:=obind h;refine k_rem rfl rfl e3 (k_mov rfl (k_nil (wpE_seq (e_reg (k_mov rfl (k_bin rfl rfl rfl (k_nil (gE fun σ4 e5=>?_))))))));have f6 : σ4 0 = V (.int .i64 y2):=(congrFun e5 0).trans rfl;have f7 : σ4 1 = V (.int .i64 x1):=(congrFun e5 1).trans rfl;have f8 : σ4 11 = V (.bool ((decide (y2 < ((0 : Int)))))):=(congrFun e5 11).trans rfl;obtain ⟨y11,h10,h⟩:=obind h;refine wpE_mono (Q:=fun ex σ' hp' _=>ex = .normal ∧ σ' 0 = V (.int .i64 y11) ∧ Keep [] 0 14 σ4 σ' ∧ [] = hp') ?_ ?_
  ·clear h; have h:=h10
   refine wpE_cond (p:=(decide (y2 < ((0 : Int))))) f8 (fun g12=>?_) (fun g12=>?_)
   ·have h:=ctrue h g12
    refine e_last (k_mov f6 (k_mov f7 (k_bin rfl rfl rfl (k_mov rfl ?_))));obtain ⟨u13,e14,h⟩:=bnd_e h;refine k_nil ?_;have q0:=Option.some.inj h;obtain rfl:=q0;exact ⟨rfl,(cgI e14),(by repeat (first | exact (Keep.refl _ _ _ _) | refine Keep.upd ?_ rfl _)),rfl⟩
   ·have h:=cfalse h g12
    refine wpE_skip ?_;have q0:=Option.some.inj h;obtain rfl:=q0;exact ⟨rfl,f6,(by repeat (first | exact (Keep.refl _ _ _ _) | refine Keep.upd ?_ rfl _)),rfl⟩
  rintro _ σ16 _ _ ⟨rfl,f15,k18,rfl⟩;refine e_reg (k_mov f15 (k_mov rfl (k_nil (wpE_ret ?_))));cases h
  exact e_ret (ct:=0) (.tmp rfl (back_sc rfl) .nil) rfl
theorem s31 {X : Run} [Up (xRun kx) X] {st : uT0} {c : List IV} {x1 : Int} {r : uT0 × Int} (hs : uR0.rp false c st) (h : uF31 st x1 = some r) : meth (L X) 31 c [.c (I (.int .i64 x1))] (P31 r):=by
 refine fn_meth (fn:=ir31) rfl (nlt rfl) fun hp0 k0=>?_;unfold uF31 at h;obtain ⟨v1,rfl,q2⟩:=uR0.inv hs;refine e_reg (k_mov rfl (k_nil (e_reg (k_mov rfl (k_nilB rfl k0 (k_fadrB (o:=1) rfl k0 (k_loadB rfl k0 rfl (k_bin rfl rfl rfl (k_nilB rfl k0 ?_)))))))));refine k_fadrB (o:=1) rfl k0 (k_storeB rfl rfl k0 rfl fun hp3 k4 r5=>?_);refine k_nil (wpE_seq (e_reg (k_mov rfl (k_nilB rfl k4 (k_fadrB (o:=0) rfl k4 (k_loadB rfl k4 rfl (k_len rfl (sv.any [] _ q2) (k_bin rfl rfl rfl (k_nil ?_)))))))));refine wpE_cond (p:=(((List.length st.L : Int)) == ((0 : Int)))) rfl (fun g6=>?_) (fun g6=>?_)
 ·have h:=ctrue h g6
  refine e_reg (k_mov rfl (k_nilB rfl k4 (k_fadrB (o:=1) rfl k4 (k_loadB rfl k4 rfl (k_bin rfl rfl rfl (k_mov rfl ?_))))));obtain ⟨y7,e8,h⟩:=obind h;refine k_call (.cons rfl rfl (.cons rfl rfl .nil)) (s80  e8) (.inl rfl) ?_;rintro _ rfl;refine k_mov rfl (k_nil (wpE_ret ?_));cases h
  exact e_retM (ct:=0) (cells':=[v1,IV.int .i64 ((IntKind.wrap .i64 (st.at_ + ((1 : Int)))))]) k4 (fun b g=>(.cons (backC_inl fun q=>nomatch q) (.cons (backC_inl fun q=>nomatch q) .nil))) (fun b g=>(.tmp rfl (back_sc rfl) .nil)) ⟨rfl,(uR0.mk q2)⟩
 ·have h:=cfalse h g6
  refine wpE_skip (e_regD (by kernel_rfl) (by kernel_rfl) (k_mov rfl (k_nilB rfl k4 (k_fadrB (o:=1) rfl k4 (k_loadB rfl k4 rfl (k_bin rfl rfl rfl (k_mov rfl (k_nilB rfl k4 (k_fadrB (o:=0) rfl k4 ?_)))))))));refine k_loadB rfl k4 rfl (k_len rfl (sv.any [] _ q2) ?_);obtain ⟨y10,e11,h⟩:=obind h;refine k_rem rfl rfl e11 (k_mov rfl (k_nil (e_regD (by kernel_rfl) (by kernel_rfl) (k_mov rfl (k_nilB rfl k4 (k_fadrB (o:=1) rfl k4 (k_loadB rfl k4 rfl (k_bin rfl rfl rfl (k_mov rfl ?_)))))))));refine k_nilB rfl k4 (k_fadrB (o:=0) rfl k4 (k_loadB rfl k4 rfl (k_len rfl (sv.any [] _ q2) ?_)));obtain ⟨y12,e13,h⟩:=obind h;refine k_quo rfl rfl e13 (k_mov rfl (k_nil (e_reg (k_mov rfl (k_nilB rfl k4 (k_fadrB (o:=0) rfl k4 (k_loadB rfl k4 rfl (k_mov rfl ?_))))))));obtain ⟨y14,e15,h⟩:=obind h;refine k_iadrL rfl (sv.any [] _ q2) rfl e15 rfl fun p16 c17 q18 h19=>?_;obtain rfl : c17 = [IV.int .i64 y14]:=h19;refine k_loadL rfl q18 rfl ?_;obtain ⟨y20,e21,h⟩:=obind h;refine k_call (.cons rfl rfl (.cons rfl rfl .nil)) (s80  e21) (.inl rfl) ?_;rintro _ rfl;refine k_mov rfl (k_mov rfl (k_bin rfl rfl rfl (k_bin rfl rfl rfl (k_bin rfl rfl rfl (k_mov rfl ?_)))));obtain ⟨y23,e24,h⟩:=obind h;refine k_call (.cons rfl rfl (.cons rfl rfl .nil)) (s80  e24) (.inl rfl) ?_;rintro _ rfl;refine k_mov rfl (k_nil (wpE_ret ?_));cases h
  exact e_retM (ct:=0) (cells':=[v1,IV.int .i64 ((IntKind.wrap .i64 (st.at_ + ((1 : Int)))))]) k4 (fun b g=>(.cons (backC_inl fun q=>nomatch q) (.cons (backC_inl fun q=>nomatch q) .nil))) (fun b g=>(.tmp rfl (back_sc rfl) .nil)) ⟨rfl,(uR0.mk q2)⟩
theorem s6 {X : Run} [Up (xRun kx) X] {st : uT0} {c : List IV} {x1 : List (List UInt8)} {vx1 : IV} {r : uT0 × List UInt8} (hs : uR0.rp false c st) (hx1 : sv Rep.str false vx1 x1) (h : uF6 st x1 = some r) : meth (L X) 6 c [.c (I vx1)] (P6 r):=by
 refine fn_meth (fn:=ir6) rfl (nlt rfl) fun hp0 k0=>?_;unfold uF6 at h;obtain ⟨v1,rfl,q2⟩:=uR0.inv hs;refine e_reg (k_mov rfl ?_);obtain ⟨u3,e4,h⟩:=bnd_e h;refine k_nil (e_reg (k_mov rfl (k_mov rfl (k_mov rfl (k_len rfl (sv.any [] _ hx1) ?_)))));obtain ⟨y5,e6,h⟩:=obind h;refine k_meth (cells:=[v1,IV.int .i64 st.at_]) rfl k0 (.cons rfl rfl .nil) rfl (s31  (uR0.retag (f:=false) (c:=[v1,IV.int .i64 st.at_]) (uR0.mk q2)) e6) fun v7 c8 hp9 h10 k11 r12=>?_;obtain ⟨rfl,h13⟩:=h10;obtain ⟨v14,rfl,q15⟩:=uR0.inv h13;obtain ⟨y16,e17,h⟩:=obind h;refine k_iadrL rfl (sv.any [] _ hx1) rfl e17 rfl fun p18 c19 q20 h21=>?_;obtain rfl : c19 = [IV.str y16]:=h21;refine k_loadL rfl q20 rfl (k_mov rfl (k_nil (wpE_ret ?_)));cases h
 exact e_retM (ct:=0) (cells':=[v14,IV.int .i64 y5.1.at_]) k11 (fun b g=>(.cons (backC_inl fun q=>nomatch q) (.cons (backC_inl fun q=>nomatch q) .nil))) (fun b g=>(.tmp rfl (back_sc rfl) .nil)) ⟨rfl,(uR0.mk q15)⟩
theorem s32 {X : Run} [Up (xRun kx) X] {st : uT0} {c : List IV} {x1 : Int} {r : uT0 × Bool} (hs : uR0.rp false c st) (h : uF32 st x1 = some r) : meth (L X) 32 c [.c (I (.int .i64 x1))] (P32 r):=by
 refine fn_meth (fn:=ir32) rfl (nlt rfl) fun hp0 k0=>?_;unfold uF32 at h;obtain ⟨v1,rfl,q2⟩:=uR0.inv hs;refine e_reg (k_mov rfl (k_nil (e_reg (k_mov rfl (k_mov rfl ?_)))));obtain ⟨y3,e4,h⟩:=obind h;refine k_meth (cells:=[v1,IV.int .i64 st.at_]) rfl k0 (.cons rfl rfl .nil) rfl (s31  (uR0.retag (f:=false) (c:=[v1,IV.int .i64 st.at_]) (uR0.mk q2)) e4) fun v5 c6 hp7 h8 k9 r10=>?_;obtain ⟨rfl,h11⟩:=h8;obtain ⟨v12,rfl,q13⟩:=uR0.inv h11;refine k_bin rfl rfl rfl (k_mov rfl ?_);obtain ⟨u14,e15,h⟩:=bnd_e h;refine k_nil (wpE_ret ?_);cases h
 exact e_retM (ct:=0) (cells':=[v12,IV.int .i64 y3.1.at_]) k9 (fun b g=>(.cons (backC_inl fun q=>nomatch q) (.cons (backC_inl fun q=>nomatch q) .nil))) (fun b g=>(.tmp (cgB e15) (back_sc rfl) .nil)) ⟨rfl,(uR0.mk q13)⟩
theorem s33 {X : Run} [Up (xRun kx) X] {x0 : List UInt8} {x1 : Int} {r : List UInt8} (h : uF33 x0 x1 = some r) : pc (L X) 33 [.c (I (.str x0)),.c (I (.int .i64 x1))] true (P33 r):=by
 unfold uF33 at h;split at h
 ·rename_i hk
  cases h
  intro lent _;refine ⟨[.c (I (.str _))],?_,rfl⟩;unfold pureCall;rw [show (L X) 33 _ [] = some ([.c (I (.str (Lib.repeatL x0 x1.toNat)))],[]) from lim_xU (A:=xRun kx) rfl _ _ (by show (if _ then _ else _) = _; rw [if_pos hk])];cases lent <;> rfl
 ·simp at h
theorem s7 {X : Run} [Up (xRun kx) X] {st : uT0} {c : List IV} {r : uT0 × List (List UInt8)} (hs : uR0.rp false c st) (h : uF7a st = some r) : meth (L X) 7 c [] (P7 r):=by
 refine fn_meth (fn:=ir7) rfl (nlt rfl) fun hp0 k0=>?_;unfold uF7a at h;obtain ⟨v1,rfl,q2⟩:=uR0.inv hs;refine e_reg (k_mov rfl (k_nil (e_reg (k_mov rfl (k_nil (wpE_seq (e_reg (k_bslI (len:=10) (z:=IV.str []) (vs:=[IV.str [97],IV.str [97,100],IV.str [98,101],IV.str [98,101,100],IV.str [99,97,98],IV.str [100],IV.str [100,97,100],IV.str [102,97,100],IV.str [102,101,100],IV.str [109]]) (.cons rfl (.cons rfl (.cons rfl (.cons rfl (.cons rfl (.cons rfl (.cons rfl (.cons rfl (.cons rfl (.cons rfl .nil)))))))))) (by decide) rfl ?_))))))))
 have o3 : sv Rep.str true (.lit 0 [IV.str [97],IV.str [97,100],IV.str [98,101],IV.str [98,101,100],IV.str [99,97,98],IV.str [100],IV.str [100,97,100],IV.str [102,97,100],IV.str [102,101,100],IV.str [109]] 10) ([([97] : List UInt8),([97,100] : List UInt8),([98,101] : List UInt8),([98,101,100] : List UInt8),([99,97,98] : List UInt8),([100] : List UInt8),([100,97,100] : List UInt8),([102,97,100] : List UInt8),([102,101,100] : List UInt8),([109] : List UInt8)] : List (List UInt8)):=sv_lit true (⟨[IV.str [97]],_,rfl,rfl,⟨[IV.str [97,100]],_,rfl,rfl,⟨[IV.str [98,101]],_,rfl,rfl,⟨[IV.str [98,101,100]],_,rfl,rfl,⟨[IV.str [99,97,98]],_,rfl,rfl,⟨[IV.str [100]],_,rfl,rfl,⟨[IV.str [100,97,100]],_,rfl,rfl,⟨[IV.str [102,97,100]],_,rfl,rfl,⟨[IV.str [102,101,100]],_,rfl,rfl,⟨[IV.str [109]],_,rfl,rfl,rfl⟩⟩⟩⟩⟩⟩⟩⟩⟩⟩) rfl;refine k_len rfl (sv.any [] _ o3) (k_mov rfl (k_nil (wpE_block (gE fun σ4 e5=>?_))));have f6 : σ4 0 = .v (.c (.r (.ptr PB 0 0))):=(congrFun e5 0).trans rfl;have f7 : σ4 3 = .v (.c ((I .nilS))):=(congrFun e5 3).trans rfl
 have f8 : σ4 6 = .v (.c ((I (.lit 0 [IV.str [97],IV.str [97,100],IV.str [98,101],IV.str [98,101,100],IV.str [99,97,98],IV.str [100],IV.str [100,97,100],IV.str [102,97,100],IV.str [102,101,100],IV.str [109]] 10)))):=(congrFun e5 6).trans rfl;have f9 : σ4 7 = V (.int .i64 ((List.length (([([97] : List UInt8),([97,100] : List UInt8),([98,101] : List UInt8),([98,101,100] : List UInt8),([99,97,98] : List UInt8),([100] : List UInt8),([100,97,100] : List UInt8),([102,97,100] : List UInt8),([102,101,100] : List UInt8),([109] : List UInt8)] : List (List UInt8))) : Int))):=(congrFun e5 7).trans rfl;have f10 : σ4 8 = V (.int .i64 ((0 : Int))):=(congrFun e5 8).trans rfl;obtain ⟨e11,h12,h⟩:=obind h
 refine wpE_mono (e_loop h12 (I:=fun s σ' hp' _=>(∃ a,σ' 3 = .v (.c a) ∧ so [17] Rep.str true hp' a s.1) ∧ σ' 8 = V (.int .i64 s.2.1) ∧ (∃ c,hp'.get PB = some (.cells 0 (c.map I)) ∧ uR0.rp false c s.2.2) ∧ Keep [3,5] 8 18 σ4 σ' ∧ Fr [17,27,1000000] hp0 hp') (X:=fun e ex σ' hp' _=>ex = .exit 0 ∧ (∃ a,σ' 3 = .v (.c a) ∧ so [17] Rep.str true hp' a e.1) ∧ (∃ c,hp'.get PB = some (.cells 0 (c.map I)) ∧ uR0.rp false c e.2) ∧ Keep [3,5] 8 18 σ4 σ' ∧ Fr [17,27,1000000] hp0 hp') ⟨⟨_,f7,(so_nil _ _ _ _)⟩,f10,⟨[v1,IV.int .i64 st.at_],k0,(uR0.mk q2)⟩,Keep.refl _ _ _ _,Fr.refl _ _⟩ ?_) ?_
 ·clear h
  rintro ⟨w13,w14,w15⟩ o σ23 hp24 _ h ⟨⟨a16,f17,o18⟩,f19,⟨c20,k21,h22⟩,k25,r26⟩;have h : uF7 w13 w14 w15 = some o:=h; unfold uF7 at h;have f27:=(k25 0 rfl).trans f6;have f28:=(k25 6 rfl).trans f8;have f29:=(k25 7 rfl).trans f9;obtain ⟨v30,rfl,q31⟩:=uR0.inv h22;refine e_reg (k_bin f19 f29 rfl (k_nil (wpE_seq (wpE_cond (p:=(decide (w14 < ((List.length (([([97] : List UInt8),([97,100] : List UInt8),([98,101] : List UInt8),([98,101,100] : List UInt8),([99,97,98] : List UInt8),([100] : List UInt8),([100,97,100] : List UInt8),([102,97,100] : List UInt8),([102,101,100] : List UInt8),([109] : List UInt8)] : List (List UInt8))) : Int))))) rfl (fun g32=>?_) (fun g32=>?_)))))
  ·have h:=ctrue h g32
   refine wpE_skip (wpE_seq (wpE_block (e_reg ?_)));obtain ⟨y33,e34,h⟩:=obind h;refine k_iadrL f28 (sv.any [] _ o3) f19 e34 rfl fun p35 c36 q37 h38=>?_;obtain rfl : c36 = [IV.str y33]:=h38;refine k_loadL rfl q37 rfl (k_mov rfl (k_nil (e_reg (k_mov f27 ?_))));obtain ⟨y39,e40,h⟩:=obind h;refine k_meth (cells:=[v30,IV.int .i64 w15.at_]) rfl k21 (.cons rfl rfl .nil) rfl (s32  (uR0.retag (f:=false) (c:=[v30,IV.int .i64 w15.at_]) (uR0.mk q31)) e40) fun v41 c42 hp43 h44 k45 r46=>?_;obtain ⟨rfl,h47⟩:=h44;obtain ⟨v48,rfl,q49⟩:=uR0.inv h47;have r50 : Fr [17,27,1000000] hp0 hp43:=Fr.ext r26 r46 rfl;have o51:=o18.fr r46 rfl;refine k_nil (wpE_cond (p:=y39.2) rfl (fun g52=>?_) (fun g52=>?_))
   ·have h:=ctrue h g52
    refine e_last (k_mov f17 (k_mov rfl (k_bslI (len:=1) (z:=IV.str []) (vs:=[IV.str y33]) (.cons rfl .nil) (by decide) rfl ?_)));have o53 : sv Rep.str true (.lit 0 [IV.str y33] 1) ([y33] : List (List UInt8)):=sv_lit true (⟨[IV.str y33],_,rfl,rfl,rfl⟩) rfl;obtain ⟨y59,e60,h⟩:=obind h;refine k_app (E:=Rep.str) (f:=true) rfl o51 rfl (sv.any [] _ o53) e60 rfl fun a54 hp55 ct56 o57 r58=>?_;have r61 : Fr [17,27,1000000] hp0 hp55:=Fr.ext r50 r58 rfl;have k62:=(r58 PB (by decide)).trans k45;refine k_mov rfl (k_nil (e_last (k_bin f19 rfl rfl (k_mov rfl (k_nil ?_)))));cases h
    exact ⟨rfl,⟨_,rfl,((o57).wide rfl)⟩,rfl,⟨[v48,IV.int .i64 y39.1.at_],k62,(uR0.mk q49)⟩,(by repeat (first | exact k25 | refine Keep.upd ?_ rfl _)),r61⟩
   ·have h:=cfalse h g52
    refine wpE_skip (e_last (k_bin f19 rfl rfl (k_mov rfl (k_nil ?_))));cases h
    exact ⟨rfl,⟨_,f17,((o51).wide rfl)⟩,rfl,⟨[v48,IV.int .i64 y39.1.at_],k45,(uR0.mk q49)⟩,(by repeat (first | exact k25 | refine Keep.upd ?_ rfl _)),r50⟩
  ·have h:=cfalse h g32
   refine wpE_exit ?_;cases h
   exact ⟨by decide,rfl,⟨_,f17,((o18).wide rfl)⟩,⟨[v30,IV.int .i64 w15.at_],k21,(uR0.mk q31)⟩,(by repeat (first | exact k25 | refine Keep.upd ?_ rfl _)),r26⟩
 obtain ⟨y63,y64⟩:=e11;rintro _ σ65 hp66 _ ⟨rfl,⟨a69,f70,o71⟩,⟨c72,k73,h74⟩,k67,r68⟩;have f75:=(k67 0 rfl).trans f6;obtain ⟨v76,rfl,q77⟩:=uR0.inv h74;refine wpE_seq (e_reg (k_mov f75 ?_));obtain ⟨y78,e79,h⟩:=obind h;refine k_meth (cells:=[v76,IV.int .i64 y64.at_]) rfl k73 (.cons rfl rfl .nil) rfl (s32  (uR0.retag (f:=false) (c:=[v76,IV.int .i64 y64.at_]) (uR0.mk q77)) e79) fun v80 c81 hp82 h83 k84 r85=>?_;obtain ⟨rfl,h86⟩:=h83;obtain ⟨v87,rfl,q88⟩:=uR0.inv h86;have o89:=o71.fr r85 rfl;refine k_nil (gE fun σ90 e91=>?_);have f92:=(congrFun e91 0).trans f75;have f93:=(congrFun e91 3).trans f70;have f94 : σ90 20 = V (.bool y78.2):=(congrFun e91 20).trans rfl;obtain ⟨⟨y97,y98⟩,h96,h⟩:=obind h;refine wpE_mono (Q:=fun ex σ' hp' _=>ex = .normal ∧ (∃ a,σ' 3 = .v (.c a) ∧ so [17,27] Rep.str true hp' a y97) ∧ (∃ c,hp'.get PB = some (.cells 0 (c.map I)) ∧ uR0.rp false c y98) ∧ Keep [] 3 27 σ90 σ' ∧ Fr [17,27,1000000] hp82 hp') ?_ ?_
 ·clear h; have h:=h96
  refine wpE_cond (p:=y78.2) f94 (fun g99=>?_) (fun g99=>?_)
  ·have h:=ctrue h g99
   refine e_last (k_mov f93 (k_mov f92 ?_));obtain ⟨y100,e101,h⟩:=obind h;refine k_call (.cons rfl rfl (.cons rfl rfl .nil)) (s33  e101) (.inl rfl) ?_;rintro _ rfl;refine k_bslI (len:=5) (z:=IV.str []) (vs:=[IV.str [],IV.str [65],IV.str [122,122],IV.str [97],IV.str y100]) (.cons rfl (.cons rfl (.cons rfl (.cons rfl (.cons rfl .nil))))) (by decide) rfl ?_;have o103 : sv Rep.str true (.lit 0 [IV.str [],IV.str [65],IV.str [122,122],IV.str [97],IV.str y100] 5) ([([] : List UInt8),([65] : List UInt8),([122,122] : List UInt8),([97] : List UInt8),y100] : List (List UInt8)):=sv_lit true (⟨[IV.str []],_,rfl,rfl,⟨[IV.str [65]],_,rfl,rfl,⟨[IV.str [122,122]],_,rfl,rfl,⟨[IV.str [97]],_,rfl,rfl,⟨[IV.str y100],_,rfl,rfl,rfl⟩⟩⟩⟩⟩) rfl;obtain ⟨y104,e105,h⟩:=obind h;refine k_meth (cells:=[v87,IV.int .i64 y78.1.at_]) rfl k84 (.cons rfl rfl .nil) rfl (s6  (uR0.retag (f:=false) (c:=[v87,IV.int .i64 y78.1.at_]) (uR0.mk q88)) (sv_retag o103) e105) fun v106 c107 hp108 h109 k110 r111=>?_;obtain ⟨rfl,h112⟩:=h109;obtain ⟨v113,rfl,q114⟩:=uR0.inv h112;have r115 : Fr [17,27,1000000] hp82 hp108:=Fr.ext (Fr.refl _ _) r111 rfl;have o116:=o89.fr r111 rfl
   refine k_bslI (len:=1) (z:=IV.str []) (vs:=[IV.str y104.2]) (.cons rfl .nil) (by decide) rfl ?_;have o117 : sv Rep.str true (.lit 0 [IV.str y104.2] 1) ([y104.2] : List (List UInt8)):=sv_lit true (⟨[IV.str y104.2],_,rfl,rfl,rfl⟩) rfl;obtain ⟨y123,e124,h⟩:=obind h;refine k_app (E:=Rep.str) (f:=true) rfl o116 rfl (sv.any [] _ o117) e124 rfl fun a118 hp119 ct120 o121 r122=>?_;have r125 : Fr [17,27,1000000] hp82 hp119:=Fr.ext r115 r122 rfl;have k126:=(r122 PB (by decide)).trans k110;refine k_mov rfl (k_nil ?_);have q0:=Option.some.inj h;obtain ⟨rfl,q1⟩:=Prod.mk.inj q0;obtain rfl:=q1;exact ⟨rfl,⟨_,rfl,((o121).wide rfl)⟩,⟨[v113,IV.int .i64 y104.1.at_],k126,(uR0.mk q114)⟩,(by repeat (first | exact (Keep.refl _ _ _ _) | refine Keep.upd ?_ rfl _)),r125⟩
  ·have h:=cfalse h g99
   refine wpE_skip ?_;have q0:=Option.some.inj h;obtain ⟨rfl,q1⟩:=Prod.mk.inj q0;obtain rfl:=q1;exact ⟨rfl,⟨_,f93,((o89).wide rfl)⟩,⟨[v87,IV.int .i64 y78.1.at_],k84,(uR0.mk q88)⟩,(by repeat (first | exact (Keep.refl _ _ _ _) | refine Keep.upd ?_ rfl _)),(Fr.refl _ _)⟩
 rintro _ σ133 hp134 _ ⟨rfl,⟨a127,f128,o129⟩,⟨c130,k131,h132⟩,k135,r136⟩;obtain ⟨v138,rfl,q139⟩:=uR0.inv h132;refine e_reg (k_mov f128 (k_mov rfl (k_nil (wpE_ret ?_))));obtain ⟨v140,q141,q142⟩ : ∃ v,(∀ b g,backC hp134 [(PB,b,g)] false a127 = some (I v)) ∧ sv Rep.str true v y97:=(o129.any).backM rfl;cases h
 exact e_retM (ct:=0) (cells':=[v138,IV.int .i64 y98.at_]) k131 (fun b g=>(.cons (backC_inl fun q=>nomatch q) (.cons (backC_inl fun q=>nomatch q) .nil))) (fun b g=>(.tmp rfl (back_c (q141 b g)) .nil)) ⟨v140,rfl,q142,(uR0.mk q139)⟩
theorem s40 {X : Run} [Up (xRun kx) X] {x0 x1 : List UInt8} {r : List UInt8} (h : uF40 x0 x1 = some r) : pc (L X) 40 [.c (I (.str x0)),.c (I (.str x1))] true (P40 r):=by
 unfold uF40 at h;split at h
 ·rename_i hk
  cases h
  intro lent _;refine ⟨[.c (I (.str _))],?_,rfl⟩;unfold pureCall;rw [show (L X) 40 _ [] = some ([.c (I (.str (Lib.trimS x0 x1)))],[]) from lim_xU (A:=xRun kx) rfl _ _ (by show (if trimOk x0 x1 then _ else _) = _; rw [if_pos hk])];cases lent <;> rfl
 ·simp at h
theorem s86 {X : Run} [Up (xRun kx) X] {x0 : List UInt8} {r : Bool}  (h : uF86 x0 = some r) : pc (L X) 86 [.c (I (.str x0))] true (P86 r):=by
 refine fn_pure (fn:=ir86) rfl (nlt rfl) fun lent hl=>?_;unfold uF86 at h;refine e_reg (k_mov rfl (k_nil (e_reg (k_mov rfl ?_))));obtain ⟨y1,e2,h⟩:=obind h;refine k_call (.cons rfl rfl (.cons rfl rfl .nil)) (s40  e2) (.inl rfl) ?_;rintro _ rfl;refine k_bin rfl rfl rfl (k_mov rfl ?_);obtain ⟨u4,e5,h⟩:=bnd_e h;refine k_nil (wpE_ret ?_);cases h
 exact e_ret (ct:=0) (.tmp (cgB e5) (back_sc rfl) .nil) rfl
theorem s34 {X : Run} [Up (xRun kx) X] {x0 : List UInt8} {x1 : Int} {x2 : Int} {r : Bool}  (h : uF34 x0 x1 x2 = some r) : pc (L X) 34 [.c (I (.str x0)),.c (I (.int .i64 x1)),.c (I (.int .i64 x2))] true (P34 r):=by
 refine fn_pure (fn:=ir34) rfl (nlt rfl) fun lent hl=>?_;unfold uF34 at h;refine e_reg (k_mov rfl (k_nil (e_reg (k_mov rfl (k_lenS rfl (k_mov rfl (k_bin rfl rfl rfl (k_mov rfl (gL fun σ1 e2=>?_)))))))));have f3 : σ1 0 = V (.str x0):=(congrFun e2 0).trans rfl;have f4 : σ1 2 = V (.int .i64 x2):=(congrFun e2 2).trans rfl;have f5 : σ1 11 = V (.bool ((decide (((List.length x0 : Int)) ≥ x1)))):=(congrFun e2 11).trans rfl;refine k_mid (fun σ' hp' _=>[] = hp' ∧ σ' 16 = V (.bool (((decide (((List.length x0 : Int)) ≥ x1)) && (decide (((List.length x0 : Int)) ≤ x2))))) ∧ Keep [] 12 16 σ1 σ') ?_ ?_
 ·rcases bt ((decide (((List.length x0 : Int)) ≥ x1))) with g6 | g6
  ·refine k_yes (f5.trans (cgB g6)) ?_
   refine k_mov f3 (k_yes (f5.trans (cgB g6)) (k_lenS rfl (k_yes (f5.trans (cgB g6)) (k_mov f4 (k_yes (f5.trans (cgB g6)) (k_bin rfl rfl rfl (k_pickT (f5.trans (cgB g6)) rfl ?_)))))));exact ⟨rfl,cgB (by rw [g6]; rfl),(by repeat (first | exact (Keep.refl _ _ _ _) | refine Keep.upd ?_ rfl _))⟩
  ·refine k_no (f5.trans (cgB g6)) rfl ?_
   refine k_no (f5.trans (cgB g6)) rfl (k_no (f5.trans (cgB g6)) rfl (k_no (f5.trans (cgB g6)) rfl (k_pickF (f5.trans (cgB g6)) rfl ?_)));exact ⟨rfl,cgB (by rw [g6]; rfl),(by repeat (first | exact (Keep.refl _ _ _ _) | refine Keep.upd ?_ rfl _))⟩
 rintro σ7 _ _ ⟨rfl,f9,k8⟩;have f10:=(k8 0 rfl).trans f3;refine k_mov f9 (gL fun σ11 e12=>?_);have f13:=(congrFun e12 0).trans f10;have f14 : σ11 17 = V (.bool (((decide (((List.length x0 : Int)) ≥ x1)) && (decide (((List.length x0 : Int)) ≤ x2))))):=(congrFun e12 17).trans rfl;obtain ⟨y19,e20,h⟩:=obind h;refine k_mid (fun σ' hp' _=>[] = hp' ∧ σ' 20 = V (.bool y19) ∧ Keep [] 18 20 σ11 σ') ?_ ?_
 ·rcases bt (((decide (((List.length x0 : Int)) ≥ x1)) && (decide (((List.length x0 : Int)) ≤ x2)))) with g15 | g15
  ·have h:=ctrue e20 g15
   refine k_yes (f14.trans (cgB g15)) (k_mov f13 (k_yes (f14.trans (cgB g15)) ?_));obtain ⟨y16,e17,h⟩:=obind h;refine k_call (.cons rfl rfl .nil) (s86  e17) (.inl rfl) ?_;rintro _ rfl;refine k_pickT (f14.trans (cgB g15)) rfl ?_;exact ⟨rfl,cgB (Option.some.inj h),(by repeat (first | exact (Keep.refl _ _ _ _) | refine Keep.upd ?_ rfl _))⟩
  ·have h:=cfalse e20 g15
   refine k_no (f14.trans (cgB g15)) rfl (k_no (f14.trans (cgB g15)) rfl (k_pickF (f14.trans (cgB g15)) rfl ?_));exact ⟨rfl,cgB (Option.some.inj h),(by repeat (first | exact (Keep.refl _ _ _ _) | refine Keep.upd ?_ rfl _))⟩
 rintro σ21 _ _ ⟨rfl,f23,k22⟩;refine k_mov f23 (k_nil (wpE_ret ?_));cases h
 exact e_ret (ct:=0) (.tmp rfl (back_sc rfl) .nil) rfl
theorem s35 {X : Run} [Up (xRun kx) X] {x0 : List (List UInt8)} {vx0 : IV} {r : Int} (hx0 : sv Rep.str false vx0 x0) (h : uF35a x0 = some r) : pc (L X) 35 [.c (I vx0)] true (P35 r):=by
 refine fn_pure (fn:=ir35) rfl (nlt rfl) fun lent hl=>?_;unfold uF35a at h;refine e_reg (k_mov rfl (k_nil (wpE_seq (e_reg (k_mov rfl (k_len rfl (sv.any [] _ hx0) (k_bin rfl rfl rfl (k_nil (wpE_cond (p:=(decide (((List.length x0 : Int)) > ((500 : Int))))) rfl (fun g1=>?_) (fun g1=>?_))))))))))
 ·have h:=ctrue h g1
  refine e_reg (k_mov rfl (k_nil (wpE_ret ?_)));cases h
  exact e_ret (ct:=0) (.tmp rfl (back_sc rfl) .nil) rfl
 ·have h:=cfalse h g1
  refine wpE_skip (wpE_seq (e_reg (k_mov rfl (k_len rfl (sv.any [] _ hx0) (k_mov rfl (k_nil (wpE_block (gE fun σ2 e3=>?_))))))));have f4 : σ2 0 = .v (.c ((I vx0))):=(congrFun e3 0).trans rfl;have f5 : σ2 8 = .v (.c ((I vx0))):=(congrFun e3 8).trans rfl;have f6 : σ2 9 = V (.int .i64 ((List.length x0 : Int))):=(congrFun e3 9).trans rfl;have f7 : σ2 10 = V (.int .i64 ((0 : Int))):=(congrFun e3 10).trans rfl;obtain ⟨e8,h9,h⟩:=lret_e h;refine wpE_mono (e_loop h9 (I:=fun s σ' hp' _=>σ' 10 = V (.int .i64 s) ∧ Keep [2,3,4] 10 39 σ2 σ' ∧ [] = hp') (X:=fun e ex σ' hp' _=>match e with | .inl e=>ex = .exit 0 ∧ Keep [2,3,4] 10 39 σ2 σ' ∧ [] = hp' | .inr r=>ex = .ret ∧ ∀ ct,atEnd 40 [Res.tmp 2] (fin lent (P35 r)) .ret σ' hp' ct) ⟨f7,Keep.refl _ _ _ _,rfl⟩ ?_) ?_
  ·clear h
   rintro w10 o σ12 _ _ h ⟨f11,k14,rfl⟩;have h : uF35 x0 w10 = some o:=h; unfold uF35 at h;have f16:=(k14 0 rfl).trans f4;have f17:=(k14 8 rfl).trans f5;have f18:=(k14 9 rfl).trans f6;refine e_reg (k_bin f11 f18 rfl (k_nil (wpE_seq (wpE_cond (p:=(decide (w10 < ((List.length x0 : Int))))) rfl (fun g19=>?_) (fun g19=>?_)))))
   ·have h:=ctrue h g19
    refine wpE_skip (wpE_seq (wpE_block (e_reg (k_mov f11 ?_))));obtain ⟨y20,e21,h⟩:=obind h;refine k_iadrL f17 (sv.any [] _ hx0) f11 e21 rfl fun p22 c23 q24 h25=>?_;obtain rfl : c23 = [IV.str y20]:=h25;refine k_loadL rfl q24 rfl (k_mov rfl (k_mov rfl (k_nil (wpE_seq (e_reg (k_mov rfl (k_lenS rfl (k_bin rfl rfl rfl (k_mov rfl ?_)))))))));refine gL fun σ26 e27=>?_;have k28 : Keep [2,3,4] 10 39 σ2 σ26:=by rw [e27]; repeat (first | exact k14 | refine Keep.upd ?_ rfl _)
    have f29:=(congrFun e27 0).trans f16;have f32:=(congrFun e27 10).trans f11;have f33 : σ26 3 = V (.int .i64 w10):=(congrFun e27 3).trans rfl;have f34 : σ26 4 = V (.str y20):=(congrFun e27 4).trans rfl;have f35 : σ26 18 = V (.bool ((decide (((List.length y20 : Int)) < ((1 : Int)))))):=(congrFun e27 18).trans rfl;refine k_mid (fun σ' hp' _=>[] = hp' ∧ σ' 22 = V (.bool (((decide (((List.length y20 : Int)) < ((1 : Int)))) || (decide (((List.length y20 : Int)) > ((15 : Int))))))) ∧ Keep [] 19 22 σ26 σ') ?_ ?_
    ·rcases bt ((decide (((List.length y20 : Int)) < ((1 : Int))))) with g36 | g36
     ·refine k_no (f35.trans (cgB g36)) rfl ?_
      refine k_no (f35.trans (cgB g36)) rfl (k_no (f35.trans (cgB g36)) rfl (k_pickT (f35.trans (cgB g36)) rfl ?_));exact ⟨rfl,cgB (by rw [g36]; rfl),(by repeat (first | exact (Keep.refl _ _ _ _) | refine Keep.upd ?_ rfl _))⟩
     ·refine k_yes (f35.trans (cgB g36)) ?_
      refine k_mov f34 (k_yes (f35.trans (cgB g36)) (k_lenS rfl (k_yes (f35.trans (cgB g36)) (k_bin rfl rfl rfl (k_pickF (f35.trans (cgB g36)) rfl ?_)))));exact ⟨rfl,cgB (by rw [g36]; rfl),(by repeat (first | exact (Keep.refl _ _ _ _) | refine Keep.upd ?_ rfl _))⟩
    rintro σ37 _ _ ⟨rfl,f39,k38⟩;have f40:=(k38 0 rfl).trans f29;have f43:=(k38 10 rfl).trans f32;have f44:=(k38 3 rfl).trans f33;have f45:=(k38 4 rfl).trans f34;have k46 : Keep [2,3,4] 10 39 σ2 σ37:=Keep.trans k28 (Keep.sub k38 rfl);refine k_mov f39 (gL fun σ47 e48=>?_);have k49 : Keep [2,3,4] 10 39 σ2 σ47:=by rw [e48]; repeat (first | exact k46 | refine Keep.upd ?_ rfl _)
    have f50:=(congrFun e48 0).trans f40;have f53:=(congrFun e48 10).trans f43;have f54:=(congrFun e48 3).trans f44;have f55:=(congrFun e48 4).trans f45;have f56 : σ47 23 = V (.bool (((decide (((List.length y20 : Int)) < ((1 : Int)))) || (decide (((List.length y20 : Int)) > ((15 : Int))))))):=(congrFun e48 23).trans rfl;obtain ⟨y61,e62,h⟩:=obind h;refine k_mid (fun σ' hp' _=>[] = hp' ∧ σ' 27 = V (.bool y61) ∧ Keep [] 24 27 σ47 σ') ?_ ?_
    ·rcases bt (((decide (((List.length y20 : Int)) < ((1 : Int)))) || (decide (((List.length y20 : Int)) > ((15 : Int)))))) with g57 | g57
     ·have h:=ctrue e62 g57
      refine k_no (f56.trans (cgB g57)) rfl (k_no (f56.trans (cgB g57)) rfl (k_no (f56.trans (cgB g57)) rfl (k_pickT (f56.trans (cgB g57)) rfl ?_)));exact ⟨rfl,cgB (Option.some.inj h),(by repeat (first | exact (Keep.refl _ _ _ _) | refine Keep.upd ?_ rfl _))⟩
     ·have h:=cfalse e62 g57
      refine k_yes (f56.trans (cgB g57)) (k_mov f55 (k_yes (f56.trans (cgB g57)) ?_));obtain ⟨y58,e59,h⟩:=obind h;refine k_call (.cons rfl rfl (.cons rfl rfl .nil)) (s40  e59) (.inl rfl) ?_;rintro _ rfl;refine k_yes (f56.trans (cgB g57)) (k_bin rfl rfl rfl (k_pickF (f56.trans (cgB g57)) rfl ?_));exact ⟨rfl,cgB (Option.some.inj h),(by repeat (first | exact (Keep.refl _ _ _ _) | refine Keep.upd ?_ rfl _))⟩
    rintro σ63 _ _ ⟨rfl,f65,k64⟩;have f66:=(k64 0 rfl).trans f50;have f69:=(k64 10 rfl).trans f53;have f70:=(k64 3 rfl).trans f54;have f71:=(k64 4 rfl).trans f55;have k72 : Keep [2,3,4] 10 39 σ2 σ63:=Keep.trans k49 (Keep.sub k64 rfl);refine k_nil (wpE_cond (p:=y61) f65 (fun g73=>?_) (fun g73=>?_))
    ·have h:=ctrue h g73
     refine e_reg (k_mov rfl (k_nil (wpE_ret ?_)));cases h
     exact ⟨by decide,rfl,fun _=>e_ret (ct:=0) (.tmp rfl (back_sc rfl) .nil) rfl⟩
    ·have h:=cfalse h g73
     refine wpE_skip (e_reg (k_mov f70 (k_bin rfl rfl rfl (k_mov rfl (gL fun σ74 e75=>?_)))));have k76 : Keep [2,3,4] 10 39 σ2 σ74:=by rw [e75]; repeat (first | exact k72 | refine Keep.upd ?_ rfl _)
     have f77:=(congrFun e75 0).trans f66;have f80:=(congrFun e75 10).trans f69;have f81:=(congrFun e75 3).trans f70;have f82:=(congrFun e75 4).trans f71;have f83 : σ74 30 = V (.bool ((decide (w10 > ((0 : Int)))))):=(congrFun e75 30).trans rfl;obtain ⟨y91,e92,h⟩:=obind h;refine k_mid (fun σ' hp' _=>[] = hp' ∧ σ' 38 = V (.bool y91) ∧ Keep [] 31 38 σ74 σ') ?_ ?_
     ·rcases bt ((decide (w10 > ((0 : Int))))) with g84 | g84
      ·have h:=ctrue e92 g84
       refine k_yes (f83.trans (cgB g84)) (k_mov f82 (k_yes (f83.trans (cgB g84)) (k_mov f77 (k_yes (f83.trans (cgB g84)) (k_mov f81 (k_yes (f83.trans (cgB g84)) (k_bin rfl rfl rfl (k_yes (f83.trans (cgB g84)) ?_))))))));obtain ⟨y85,e86,h⟩:=obind h;refine k_iadrL rfl (sv.any [] _ hx0) rfl e86 rfl fun p87 c88 q89 h90=>?_;obtain rfl : c88 = [IV.str y85]:=h90;refine k_yes (f83.trans (cgB g84)) (k_loadL rfl q89 rfl (k_yes (f83.trans (cgB g84)) (k_bin rfl rfl rfl (k_pickT (f83.trans (cgB g84)) rfl ?_))));exact ⟨rfl,cgB (Option.some.inj h),(by repeat (first | exact (Keep.refl _ _ _ _) | refine Keep.upd ?_ rfl _))⟩
      ·have h:=cfalse e92 g84
       refine k_no (f83.trans (cgB g84)) rfl (k_no (f83.trans (cgB g84)) rfl (k_no (f83.trans (cgB g84)) rfl (k_no (f83.trans (cgB g84)) rfl (k_no (f83.trans (cgB g84)) rfl (k_no (f83.trans (cgB g84)) rfl (k_no (f83.trans (cgB g84)) rfl (k_pickF (f83.trans (cgB g84)) rfl ?_)))))));exact ⟨rfl,cgB (Option.some.inj h),(by repeat (first | exact (Keep.refl _ _ _ _) | refine Keep.upd ?_ rfl _))⟩
     rintro σ93 _ _ ⟨rfl,f95,k94⟩;have f99:=(k94 10 rfl).trans f80;have k100 : Keep [2,3,4] 10 39 σ2 σ93:=Keep.trans k76 (Keep.sub k94 rfl);refine k_nil (wpE_cond (p:=y91) f95 (fun g101=>?_) (fun g101=>?_))
     ·have h:=ctrue h g101
      refine e_reg (k_mov rfl (k_nil (wpE_ret ?_)));cases h
      exact ⟨by decide,rfl,fun _=>e_ret (ct:=0) (.tmp rfl (back_sc rfl) .nil) rfl⟩
     ·have h:=cfalse h g101
      refine wpE_skip (e_last (k_bin f99 rfl rfl (k_mov rfl (k_nil ?_))));cases h
      exact ⟨rfl,rfl,(by repeat (first | exact k100 | refine Keep.upd ?_ rfl _)),rfl⟩
   ·have h:=cfalse h g19
    refine wpE_exit ?_;cases h
    exact ⟨by decide,rfl,(by repeat (first | exact k14 | refine Keep.upd ?_ rfl _)),rfl⟩
  rcases e8 with _ | r1;rotate_left
  ·rintro _ _ _ _ ⟨rfl,hX⟩
   cases h
   exact hX 0
  rintro _ σ102 _ _ ⟨rfl,k104,rfl⟩;refine e_reg (k_mov rfl (k_nil (wpE_ret ?_)));cases h
  exact e_ret (ct:=0) (.tmp rfl (back_sc rfl) .nil) rfl
theorem s87 {X : Run} [Up (xRun kx) X] {x0 : Int} {r : Int}  (h : uF87 x0 = some r) : pc (L X) 87 [.c (I (.int .u8 x0))] true (P87 r):=by
 refine fn_pure (fn:=ir87) rfl (nlt rfl) fun lent hl=>?_;unfold uF87 at h;refine e_reg (k_mov rfl (k_nil (wpE_seq (wpE_block (e_reg (k_mov rfl (k_bin rfl rfl rfl (k_mov rfl (gL fun σ1 e2=>?_)))))))));have f3 : σ1 0 = V (.int .u8 x0):=(congrFun e2 0).trans rfl;have f4 : σ1 6 = V (.bool ((decide (x0 ≥ ((48 : Int)))))):=(congrFun e2 6).trans rfl;refine k_mid (fun σ' hp' _=>[] = hp' ∧ σ' 9 = V (.bool (((decide (x0 ≥ ((48 : Int)))) && (decide (x0 ≤ ((57 : Int))))))) ∧ Keep [] 7 9 σ1 σ') ?_ ?_
 ·rcases bt ((decide (x0 ≥ ((48 : Int))))) with g5 | g5
  ·refine k_yes (f4.trans (cgB g5)) ?_
   refine k_mov f3 (k_yes (f4.trans (cgB g5)) (k_bin rfl rfl rfl (k_pickT (f4.trans (cgB g5)) rfl ?_)));exact ⟨rfl,cgB (by rw [g5]; rfl),(by repeat (first | exact (Keep.refl _ _ _ _) | refine Keep.upd ?_ rfl _))⟩
  ·refine k_no (f4.trans (cgB g5)) rfl ?_
   refine k_no (f4.trans (cgB g5)) rfl (k_pickF (f4.trans (cgB g5)) rfl ?_);exact ⟨rfl,cgB (by rw [g5]; rfl),(by repeat (first | exact (Keep.refl _ _ _ _) | refine Keep.upd ?_ rfl _))⟩
 rintro σ6 _ _ ⟨rfl,f8,k7⟩;have f9:=(k7 0 rfl).trans f3;refine k_mov f8 ?_;obtain ⟨u10,e11,h⟩:=bnd_e h;refine k_nil (wpE_cond (p:=u10) (cgB e11) (fun g12=>?_) (fun g12=>?_))
 ·have h:=ctrue h g12
  refine e_reg (k_mov f9 (k_mov rfl (k_nil (wpE_ret ?_))));cases h
  exact e_ret (ct:=0) (.tmp rfl (back_sc rfl) .nil) rfl
 ·have h:=cfalse h g12
  refine e_reg (k_mov f9 (k_bin rfl rfl rfl (k_mov rfl (gL fun σ13 e14=>?_))));have f15:=(congrFun e14 0).trans f9;have f16 : σ13 14 = V (.bool ((decide (x0 ≥ ((65 : Int)))))):=(congrFun e14 14).trans rfl;refine k_mid (fun σ' hp' _=>[] = hp' ∧ σ' 17 = V (.bool (((decide (x0 ≥ ((65 : Int)))) && (decide (x0 ≤ ((90 : Int))))))) ∧ Keep [] 15 17 σ13 σ') ?_ ?_
  ·rcases bt ((decide (x0 ≥ ((65 : Int))))) with g17 | g17
   ·refine k_yes (f16.trans (cgB g17)) ?_
    refine k_mov f15 (k_yes (f16.trans (cgB g17)) (k_bin rfl rfl rfl (k_pickT (f16.trans (cgB g17)) rfl ?_)));exact ⟨rfl,cgB (by rw [g17]; rfl),(by repeat (first | exact (Keep.refl _ _ _ _) | refine Keep.upd ?_ rfl _))⟩
   ·refine k_no (f16.trans (cgB g17)) rfl ?_
    refine k_no (f16.trans (cgB g17)) rfl (k_pickF (f16.trans (cgB g17)) rfl ?_);exact ⟨rfl,cgB (by rw [g17]; rfl),(by repeat (first | exact (Keep.refl _ _ _ _) | refine Keep.upd ?_ rfl _))⟩
  rintro σ18 _ _ ⟨rfl,f20,k19⟩;have f21:=(k19 0 rfl).trans f15;refine k_mov f20 ?_;obtain ⟨u22,e23,h⟩:=bnd_e h;refine k_nil (wpE_cond (p:=u22) (cgB e23) (fun g24=>?_) (fun g24=>?_))
  ·have h:=ctrue h g24
   refine e_reg (k_mov f21 (k_bin rfl rfl rfl ?_));obtain ⟨y25,e26,h⟩:=obind h;refine k_idxS rfl rfl e26 (k_mov rfl ?_);obtain ⟨u27,e28,h⟩:=bnd_e h;refine k_nil (wpE_ret ?_);cases h
   exact e_ret (ct:=0) (.tmp (cgI e28) (back_sc rfl) .nil) rfl
  ·have h:=cfalse h g24
   refine e_reg (k_mov f21 (k_bin rfl rfl rfl (k_mov rfl (gL fun σ29 e30=>?_))));have f31:=(congrFun e30 0).trans f21;have f32 : σ29 24 = V (.bool ((decide (x0 ≥ ((97 : Int)))))):=(congrFun e30 24).trans rfl;refine k_mid (fun σ' hp' _=>[] = hp' ∧ σ' 27 = V (.bool (((decide (x0 ≥ ((97 : Int)))) && (decide (x0 ≤ ((122 : Int))))))) ∧ Keep [] 25 27 σ29 σ') ?_ ?_
   ·rcases bt ((decide (x0 ≥ ((97 : Int))))) with g33 | g33
    ·refine k_yes (f32.trans (cgB g33)) ?_
     refine k_mov f31 (k_yes (f32.trans (cgB g33)) (k_bin rfl rfl rfl (k_pickT (f32.trans (cgB g33)) rfl ?_)));exact ⟨rfl,cgB (by rw [g33]; rfl),(by repeat (first | exact (Keep.refl _ _ _ _) | refine Keep.upd ?_ rfl _))⟩
    ·refine k_no (f32.trans (cgB g33)) rfl ?_
     refine k_no (f32.trans (cgB g33)) rfl (k_pickF (f32.trans (cgB g33)) rfl ?_);exact ⟨rfl,cgB (by rw [g33]; rfl),(by repeat (first | exact (Keep.refl _ _ _ _) | refine Keep.upd ?_ rfl _))⟩
   rintro σ34 _ _ ⟨rfl,f36,k35⟩;have f37:=(k35 0 rfl).trans f31;refine k_mov f36 ?_;obtain ⟨u38,e39,h⟩:=bnd_e h;refine k_nil (wpE_cond (p:=u38) (cgB e39) (fun g40=>?_) (fun g40=>?_))
   ·have h:=ctrue h g40
    refine e_reg (k_mov f37 (k_bin rfl rfl rfl ?_));obtain ⟨y41,e42,h⟩:=obind h;refine k_idxS rfl rfl e42 (k_mov rfl ?_);obtain ⟨u43,e44,h⟩:=bnd_e h;refine k_nil (wpE_ret ?_);cases h
    exact e_ret (ct:=0) (.tmp (cgI e44) (back_sc rfl) .nil) rfl
   ·have h:=cfalse h g40
    refine wpE_skip (e_reg (k_mov rfl (k_nil (wpE_ret ?_))));cases h
    exact e_ret (ct:=0) (.tmp rfl (back_sc rfl) .nil) rfl
theorem s36 {X : Run} [Up (xRun kx) X] {x0 : List UInt8} {r : List UInt8 × Int}  (h : uF36 x0 = some r) : pc (L X) 36 [.c (I (.str x0))] true (P36 r):=by
 refine fn_pure (fn:=ir36) rfl (nlt rfl) fun lent hl=>?_;unfold uF36 at h;refine e_reg (k_mov rfl ?_);obtain ⟨u1,e2,h⟩:=bnd_e h;refine k_mov rfl (k_nil (wpE_seq (e_reg (k_mov rfl (k_lenS rfl (k_bin rfl rfl rfl (k_nil (wpE_cond (p:=(decide (((List.length x0 : Int)) > ((60 : Int))))) rfl (fun g3=>?_) (fun g3=>?_)))))))))
 ·have h:=ctrue h g3
  refine e_reg (k_mov rfl ?_);obtain ⟨u4,e5,h⟩:=bnd_e h;refine k_mov rfl (k_nil (wpE_ret ?_));cases h
  exact e_ret (ct:=0) (.tmp (cgS e5) (back_sc rfl) (.tmp rfl (back_sc rfl) .nil)) rfl
 ·have h:=cfalse h g3
  refine wpE_skip (e_reg (k_mov rfl (k_lenS rfl ?_)));obtain ⟨y6,e7,h⟩:=obind h;refine k_mksl (E:=(Rep.int .u8)) (f:=true) rfl rfl e7 (rfl) rfl fun a8 hp9 o10 r11=>?_;refine k_mov rfl (k_nil (wpE_seq (e_reg (k_mov rfl (k_len rfl o10.any (k_mov rfl (k_nil (wpE_block (gE fun σ12 e13=>?_)))))))));have f14 : σ12 0 = V (.str x0):=(congrFun e13 0).trans rfl;have f15 : σ12 4 = .v (.c a8):=(congrFun e13 4).trans rfl;have f16 : σ12 13 = V (.int .i64 ((List.length y6 : Int))):=(congrFun e13 13).trans rfl;have f17 : σ12 14 = V (.int .i64 ((0 : Int))):=(congrFun e13 14).trans rfl;obtain ⟨e18,h19,h⟩:=lret_e h;refine wpE_mono (e_loop h19 (I:=fun s σ' hp' _=>(∃ a,σ' 4 = .v (.c a) ∧ so [11] (Rep.int .u8) true hp' a s.1) ∧ σ' 14 = V (.int .i64 s.2) ∧ Keep [2,3,5] 14 29 σ12 σ' ∧ Fr [11] hp9 hp') (X:=fun e ex σ' hp' _=>match e with | .inl e=>ex = .exit 0 ∧ (∃ a,σ' 4 = .v (.c a) ∧ so [11] (Rep.int .u8) true hp' a e) ∧ Keep [2,3,5] 14 29 σ12 σ' ∧ Fr [11] hp9 hp' | .inr r=>ex = .ret ∧ ∀ ct,atEnd 32 [Res.tmp 2,Res.tmp 3] (fin lent (P36 r)) .ret σ' hp' ct) ⟨⟨_,f15,((o10).wide rfl)⟩,f17,Keep.refl _ _ _ _,Fr.refl _ _⟩ ?_) ?_
  ·clear h
   rintro ⟨w20,w21⟩ o σ26 hp27 _ h ⟨⟨a22,f23,o24⟩,f25,k28,r29⟩;have h : uF36a x0 y6 w20 w21 = some o:=h; unfold uF36a at h;have f30:=(k28 0 rfl).trans f14;have f31:=(k28 13 rfl).trans f16;refine e_reg (k_bin f25 f31 rfl (k_nil (wpE_seq (wpE_cond (p:=(decide (w21 < ((List.length y6 : Int))))) rfl (fun g32=>?_) (fun g32=>?_)))))
   ·have h:=ctrue h g32
    refine wpE_skip (wpE_seq (wpE_block (e_reg (k_mov f25 (k_mov rfl (k_nil (e_reg (k_mov f23 (k_mov rfl ?_)))))))));refine k_mov f30 (k_mov rfl ?_);obtain ⟨y33,e34,h⟩:=obind h;refine k_idxS rfl rfl e34 ?_;obtain ⟨y35,e36,h⟩:=obind h;refine k_call (.cons rfl rfl .nil) (s87  e36) (.inl rfl) ?_;rintro _ rfl;obtain ⟨y38,e39,h⟩:=obind h;refine k_iadrO (sz:=1) rfl o24 rfl (idx_in e39) rfl fun p40 q41=>?_;refine k_storeO (ws:=[IV.int .u8 y35]) (o:=0) (sz:=1) (u':=y35) rfl q41 rfl rfl rfl e39 (by decide) rfl (fun _ hc=>stoAll hc rfl) fun hp42 k43 r44=>?_;obtain ⟨l45,e46,h⟩:=bnd_e h;have o47:=e46 ▸ k43;have r48 : Fr [11] hp9 hp42:=Fr.ext r29 r44 rfl;refine k_nil (e_reg (k_mov f23 (k_mov rfl ?_)));obtain ⟨y51,e52,h⟩:=obind h;refine k_iadrL rfl o47.any rfl e52 rfl fun p53 c54 q55 h56=>?_;obtain rfl : c54 = [IV.int .u8 y51]:=h56;refine k_loadL rfl q55 rfl (k_bin rfl rfl rfl (k_nil (wpE_cond (p:=(y51 == ((0 : Int)))) rfl (fun g57=>?_) (fun g57=>?_))))
    ·have h:=ctrue h g57
     refine e_reg (k_mov rfl ?_);obtain ⟨u58,e59,h⟩:=bnd_e h;refine k_mov rfl (k_nil (wpE_ret ?_));cases h
     exact ⟨by decide,rfl,fun _=>e_ret (ct:=0) (.tmp (cgS e59) (back_sc rfl) (.tmp rfl (back_sc rfl) .nil)) rfl⟩
    ·have h:=cfalse h g57
     refine wpE_skip (e_last (k_bin f25 rfl rfl (k_mov rfl (k_nil ?_))));cases h
     exact ⟨rfl,⟨_,f23,((o47).wide rfl)⟩,rfl,(by repeat (first | exact k28 | refine Keep.upd ?_ rfl _)),r48⟩
   ·have h:=cfalse h g32
    refine wpE_exit ?_;cases h
    exact ⟨by decide,rfl,⟨_,f23,((o24).wide rfl)⟩,(by repeat (first | exact k28 | refine Keep.upd ?_ rfl _)),r29⟩
  rcases e18 with y60 | r1;rotate_left
  ·rintro _ _ _ _ ⟨rfl,hX⟩
   cases h
   exact hX 0
  rintro _ σ61 hp62 _ ⟨rfl,⟨a65,f66,o67⟩,k63,r64⟩;refine e_reg (k_mov f66 (k_cvBS rfl o67.any (k_mov rfl ?_)));obtain ⟨u68,e69,h⟩:=bnd_e h;refine k_mov rfl (k_nil (wpE_ret ?_));cases h
  exact e_ret (ct:=0) (.tmp (cgS e69) (back_sc rfl) (.tmp rfl (back_sc rfl) .nil)) rfl
theorem s88 {X : Run} [Up (xRun kx) X] {x0 : List UInt8} {x1 : List UInt8} {r : Bool}  (h : uF88 x0 x1 = some r) : pc (L X) 88 [.c (I (.str x0)),.c (I (.str x1))] true (P88 r):=by
 refine fn_pure (fn:=ir88) rfl (nlt rfl) fun lent hl=>?_;unfold uF88 at h;refine e_reg (k_mov rfl (k_nil (e_reg (k_mov rfl (k_lenS rfl (k_mov rfl (k_lenS rfl (k_bin rfl rfl rfl (k_mov rfl ?_)))))))));refine gL fun σ1 e2=>?_;have f3 : σ1 0 = V (.str x0):=(congrFun e2 0).trans rfl;have f4 : σ1 1 = V (.str x1):=(congrFun e2 1).trans rfl;have f5 : σ1 10 = V (.bool ((decide (((List.length x0 : Int)) ≥ ((List.length x1 : Int)))))):=(congrFun e2 10).trans rfl;obtain ⟨y9,e10,h⟩:=obind h;refine k_mid (fun σ' hp' _=>[] = hp' ∧ σ' 17 = V (.bool y9) ∧ Keep [] 11 17 σ1 σ') ?_ ?_
 ·rcases bt ((decide (((List.length x0 : Int)) ≥ ((List.length x1 : Int))))) with g6 | g6
  ·have h:=ctrue e10 g6
   refine k_yes (f5.trans (cgB g6)) (k_mov f3 (k_yes (f5.trans (cgB g6)) (k_mov f4 (k_yes (f5.trans (cgB g6)) (k_lenS rfl (k_yes (f5.trans (cgB g6)) ?_))))));obtain ⟨y7,e8,h⟩:=obind h;refine k_slcT rfl .none (.some rfl) e8 (k_yes (f5.trans (cgB g6)) (k_mov f4 (k_yes (f5.trans (cgB g6)) (k_bin rfl rfl rfl (k_pickT (f5.trans (cgB g6)) rfl ?_)))));exact ⟨rfl,cgB (Option.some.inj h),(by repeat (first | exact (Keep.refl _ _ _ _) | refine Keep.upd ?_ rfl _))⟩
  ·have h:=cfalse e10 g6
   refine k_no (f5.trans (cgB g6)) rfl (k_no (f5.trans (cgB g6)) rfl (k_no (f5.trans (cgB g6)) rfl (k_no (f5.trans (cgB g6)) rfl (k_no (f5.trans (cgB g6)) rfl (k_no (f5.trans (cgB g6)) rfl (k_pickF (f5.trans (cgB g6)) rfl ?_))))));exact ⟨rfl,cgB (Option.some.inj h),(by repeat (first | exact (Keep.refl _ _ _ _) | refine Keep.upd ?_ rfl _))⟩
 rintro σ11 _ _ ⟨rfl,f13,k12⟩;refine k_mov f13 (k_nil (wpE_ret ?_));cases h
 exact e_ret (ct:=0) (.tmp rfl (back_sc rfl) .nil) rfl
theorem s37 {X : Run} [Up (xRun kx) X] {x0 : List UInt8} {x1 : List UInt8} {r : Bool}  (h : uF37 x0 x1 = some r) : pc (L X) 37 [.c (I (.str x0)),.c (I (.str x1))] true (P37 r):=by
 refine fn_pure (fn:=ir37) rfl (nlt rfl) fun lent hl=>?_;unfold uF37 at h;refine e_reg (k_mov rfl (k_nil (e_reg (k_mov rfl (k_mov rfl ?_)))));obtain ⟨y1,e2,h⟩:=obind h;refine k_call (.cons rfl rfl (.cons rfl rfl .nil)) (s88  e2) (.inl rfl) ?_;rintro _ rfl;refine k_mov rfl (k_nil (wpE_ret ?_));cases h
 exact e_ret (ct:=0) (.tmp rfl (back_sc rfl) .nil) rfl
theorem s8 {X : Run} [Up (xRun kx) X] {x0 : List UInt8} {x1 : List (List UInt8)} {vx1 : IV} {r : List (List UInt8) × Bool × Int} (hx1 : sv Rep.str false vx1 x1) (h : uF8 x0 x1 = some r) : pc (L X) 8 [.c (I (.str x0)),.c (I vx1)] true (P8 r):=by
 refine fn_pure (fn:=ir8) rfl (nlt rfl) fun lent hl=>?_;unfold uF8 at h;refine e_reg (k_mov rfl (k_mov rfl (k_mov rfl (k_nil (wpE_seq (e_reg (k_mov rfl ?_)))))));obtain ⟨y1,e2,h⟩:=obind h;refine k_call (.cons rfl rfl (.cons rfl rfl (.cons rfl rfl .nil))) (s34  e2) (.inl rfl) ?_;rintro _ rfl;refine k_not rfl (k_nil (wpE_cond (p:=(!y1)) rfl (fun g4=>?_) (fun g4=>?_)))
 ·have h:=ctrue h g4
  refine e_reg (k_mov rfl (k_mov rfl (k_mov rfl (k_nil (wpE_ret ?_)))));cases h
  exact e_ret (ct:=0) (.tmp rfl (back_c (backC_inl fun _=>sv_fresh (sv_nil Rep.str true))) (.tmp rfl (back_sc rfl) (.tmp rfl (back_sc rfl) .nil))) ⟨IV.nilS,rfl,(sv_nil Rep.str true)⟩
 ·have h:=cfalse h g4
  refine wpE_skip (wpE_seq (e_reg (k_mov rfl ?_)));obtain ⟨y5,e6,h⟩:=obind h;refine k_call (.cons rfl rfl .nil) (s35 (sv_retag hx1) e6) (.inl rfl) ?_;rintro _ rfl;refine k_mov rfl (k_nil (e_reg (k_mov rfl (k_bin rfl rfl rfl (k_nil (wpE_cond (p:=(y5 != ((0 : Int)))) rfl (fun g8=>?_) (fun g8=>?_)))))))
  ·have h:=ctrue h g8
   refine e_reg (k_mov rfl (k_mov rfl (k_mov rfl (k_mov rfl (k_nil (wpE_ret ?_))))));cases h
   exact e_ret (ct:=0) (.tmp rfl (back_c (backC_inl fun _=>sv_fresh (sv_nil Rep.str true))) (.tmp rfl (back_sc rfl) (.tmp rfl (back_sc rfl) .nil))) ⟨IV.nilS,rfl,(sv_nil Rep.str true)⟩
  ·have h:=cfalse h g8
   refine wpE_skip (e_reg (k_mov rfl (k_len rfl (sv.any [] _ hx1) ?_)));obtain ⟨y9,e10,h⟩:=obind h;refine k_mksl (E:=Rep.str) (f:=true) rfl rfl e10 (rfl) rfl fun a11 hp12 o13 r14=>?_;refine k_mov rfl (k_nil (wpE_seq (e_reg (k_mov rfl (k_len rfl (sv.any [] _ hx1) (k_mov rfl (k_nil (wpE_block (gE fun σ15 e16=>?_)))))))));have f17 : σ15 0 = V (.str x0):=(congrFun e16 0).trans rfl;have f18 : σ15 1 = .v (.c ((I vx1))):=(congrFun e16 1).trans rfl;have f19 : σ15 8 = .v (.c a11):=(congrFun e16 8).trans rfl;have f20 : σ15 30 = .v (.c ((I vx1))):=(congrFun e16 30).trans rfl;have f21 : σ15 31 = V (.int .i64 ((List.length x1 : Int))):=(congrFun e16 31).trans rfl;have f22 : σ15 32 = V (.int .i64 ((0 : Int))):=(congrFun e16 32).trans rfl;obtain ⟨y62,h24,h⟩:=obind h;refine wpE_mono (e_loop h24 (I:=fun s σ' hp' _=>(∃ a,σ' 8 = .v (.c a) ∧ so [29] Rep.str true hp' a s.1) ∧ σ' 32 = V (.int .i64 s.2) ∧ Keep [9,10] 32 45 σ15 σ' ∧ Fr [29] hp12 hp') (X:=fun e ex σ' hp' _=>ex = .exit 0 ∧ (∃ a,σ' 8 = .v (.c a) ∧ so [29] Rep.str true hp' a e) ∧ Keep [9,10] 32 45 σ15 σ' ∧ Fr [29] hp12 hp') ⟨⟨_,f19,((o13).wide rfl)⟩,f22,Keep.refl _ _ _ _,Fr.refl _ _⟩ ?_) ?_
   ·clear h
    rintro ⟨w25,w26⟩ o σ31 hp32 _ h ⟨⟨a27,f28,o29⟩,f30,k33,r34⟩;have h : uF8a x1 w25 w26 = some o:=h; unfold uF8a at h;have f37:=(k33 30 rfl).trans f20;have f38:=(k33 31 rfl).trans f21;refine e_reg (k_bin f30 f38 rfl (k_nil (wpE_seq (wpE_cond (p:=(decide (w26 < ((List.length x1 : Int))))) rfl (fun g39=>?_) (fun g39=>?_)))))
    ·have h:=ctrue h g39
     refine wpE_skip (wpE_seq (wpE_block (e_reg (k_mov f30 ?_))));obtain ⟨y40,e41,h⟩:=obind h;refine k_iadrL f37 (sv.any [] _ hx1) f30 e41 rfl fun p42 c43 q44 h45=>?_;obtain rfl : c43 = [IV.str y40]:=h45;refine k_loadL rfl q44 rfl (k_mov rfl (k_mov rfl (k_nil (e_last (k_mov f28 (k_mov rfl (k_mov rfl ?_)))))));obtain ⟨y46,e47,h⟩:=obind h;refine k_call (.cons rfl rfl .nil) (s36  e47) (.inl rfl) ?_;rintro _ rfl;refine k_movT rfl (k_ext rfl rfl (k_ext rfl rfl ?_));obtain ⟨y49,e50,h⟩:=obind h;refine k_iadrO (sz:=1) rfl o29 rfl (idx_in e50) rfl fun p51 q52=>?_;refine k_storeO (ws:=[IV.str y46.1]) (o:=0) (sz:=1) (u':=y46.1) rfl q52 rfl rfl rfl e50 (by decide) rfl (fun _ hc=>stoAll hc rfl) fun hp53 k54 r55=>?_;obtain ⟨l56,e57,h⟩:=bnd_e h;have o58:=e57 ▸ k54;have r59 : Fr [29] hp12 hp53:=Fr.ext r34 r55 rfl;refine k_nil (e_last (k_bin f30 rfl rfl (k_mov rfl (k_nil ?_))));cases h
     exact ⟨rfl,⟨_,f28,((o58).wide rfl)⟩,rfl,(by repeat (first | exact k33 | refine Keep.upd ?_ rfl _)),r59⟩
    ·have h:=cfalse h g39
     refine wpE_exit ?_;cases h
     exact ⟨by decide,rfl,⟨_,f28,((o29).wide rfl)⟩,(by repeat (first | exact k33 | refine Keep.upd ?_ rfl _)),r34⟩
   rintro _ σ63 hp64 _ ⟨rfl,⟨a67,f68,o69⟩,k65,r66⟩;have f70:=(k65 0 rfl).trans f17;have f71:=(k65 1 rfl).trans f18;refine e_reg (k_mov f70 (k_lenS rfl (k_bin rfl rfl rfl ?_)));obtain ⟨y72,e73,h⟩:=obind h;refine k_mksl (E:=(Rep.int .i64)) (f:=true) rfl rfl e73 (rfl) rfl fun a74 hp75 o76 r77=>?_;have o78:=o69.fr r77 rfl;refine k_mov rfl (k_nil (wpE_seq (e_reg (k_mov f70 (k_lenS rfl (k_bin rfl rfl rfl (k_mov rfl ?_)))))));obtain ⟨u79,e80,h⟩:=bnd_e h;refine k_nil (wpE_block (gE fun σ81 e82=>?_));have f83:=(congrFun e82 0).trans f70;have f84:=(congrFun e82 1).trans f71;have f85:=(congrFun e82 8).trans f68;have f86 : σ81 11 = .v (.c a74):=(congrFun e82 11).trans rfl;have f87 : σ81 12 = V (.int .i64 u79):=(congrFun e82 12).trans (cgI e80);obtain ⟨y208,h89,h⟩:=obind h;refine wpE_mono (e_loop h89 (I:=fun s σ' hp' _=>(∃ a,σ' 11 = .v (.c a) ∧ so [49] (Rep.int .i64) true hp' a s.1) ∧ σ' 12 = V (.int .i64 s.2) ∧ Keep [] 12 87 σ81 σ' ∧ Fr [49] hp75 hp') (X:=fun e ex σ' hp' _=>ex = .exit 2 ∧ (∃ a,σ' 11 = .v (.c a) ∧ so [49] (Rep.int .i64) true hp' a e) ∧ Keep [] 12 87 σ81 σ' ∧ Fr [49] hp75 hp') ⟨⟨_,f86,((o76).wide rfl)⟩,f87,Keep.refl _ _ _ _,Fr.refl _ _⟩ ?_) ?_
   ·clear h
    rintro ⟨w90,w91⟩ o σ96 hp97 _ h ⟨⟨a92,f93,o94⟩,f95,k98,r99⟩;have h : uF8d x0 y62 w90 w91 = some o:=h; unfold uF8d at h;have f100:=(k98 0 rfl).trans f83;have f102:=(k98 8 rfl).trans f85;have o103:=o78.fr r99 rfl;refine wpE_seq (e_reg (k_mov f95 (k_bin rfl rfl rfl (k_nil (wpE_cond (p:=(decide (w91 ≥ ((0 : Int))))) rfl (fun g104=>?_) (fun g104=>?_))))))
    ·have h:=ctrue h g104
     refine wpE_skip (wpE_seq (wpE_block (e_reg (k_mov f93 (k_mov f95 ?_)))));obtain ⟨y105,e106,h⟩:=obind h;refine k_iadrO (sz:=1) rfl o94 rfl (idx_in e106) rfl fun p107 q108=>?_;refine k_storeO (ws:=[IV.int .i64 ((31 : Int))]) (o:=0) (sz:=1) (u':=(31 : Int)) rfl q108 rfl rfl rfl e106 (by decide) rfl (fun _ hc=>stoAll hc rfl) fun hp109 k110 r111=>?_;obtain ⟨l112,e113,h⟩:=bnd_e h;have o114:=e113 ▸ k110;have r115 : Fr [49] hp75 hp109:=Fr.ext r99 r111 rfl;have o116:=o103.fr r111 rfl;refine k_nil (e_reg (k_mov f102 (k_len rfl o116.any (k_mov rfl (k_nil (wpE_block (gE fun σ119 e120=>?_)))))));have k121 : Keep [] 12 87 σ81 σ119:=by rw [e120]; repeat (first | exact k98 | refine Keep.upd ?_ rfl _)
     have f122:=(congrFun e120 0).trans f100;have f125:=(congrFun e120 12).trans f95;have f126:=(congrFun e120 11).trans f93;have f127 : σ119 60 = .v (.c a67):=(congrFun e120 60).trans rfl;have f128 : σ119 61 = V (.int .i64 ((List.length y62 : Int))):=(congrFun e120 61).trans rfl;have f129 : σ119 62 = V (.int .i64 ((0 : Int))):=(congrFun e120 62).trans rfl;obtain ⟨y191,h131,h⟩:=obind h;refine wpE_mono (e_loop h131 (I:=fun s σ' hp' _=>(∃ a,σ' 11 = .v (.c a) ∧ so [49] (Rep.int .i64) true hp' a s.1) ∧ σ' 62 = V (.int .i64 s.2) ∧ Keep [14] 62 87 σ119 σ' ∧ Fr [49] hp109 hp') (X:=fun e ex σ' hp' _=>ex = .exit 4 ∧ (∃ a,σ' 11 = .v (.c a) ∧ so [49] (Rep.int .i64) true hp' a e) ∧ Keep [14] 62 87 σ119 σ' ∧ Fr [49] hp109 hp') ⟨⟨_,f126,((o114).wide rfl)⟩,f129,Keep.refl _ _ _ _,Fr.refl _ _⟩ ?_) ?_
     ·clear h
      rintro ⟨w132,w133⟩ o σ138 hp139 _ h ⟨⟨a134,f135,o136⟩,f137,k140,r141⟩;have h : uF8b x0 y62 w91 w132 w133 = some o:=h; unfold uF8b at h;have f142:=(k140 0 rfl).trans f122;have f145:=(k140 12 rfl).trans f125;have f146:=(k140 60 rfl).trans f127;have f147:=(k140 61 rfl).trans f128;have o150:=o116.fr r141 rfl;refine e_reg (k_bin f137 f147 rfl (k_nil (wpE_seq (wpE_cond (p:=(decide (w133 < ((List.length y62 : Int))))) rfl (fun g151=>?_) (fun g151=>?_)))))
      ·have h:=ctrue h g151
       refine wpE_skip (wpE_seq (wpE_block (e_reg ?_)));obtain ⟨y152,e153,h⟩:=obind h;refine k_iadrL f146 o150.any f137 e153 rfl fun p154 c155 q156 h157=>?_;obtain rfl : c155 = [IV.str y152]:=h157;refine k_loadL rfl q156 rfl (k_mov rfl (k_nil (e_reg (k_mov f142 (k_mov f145 ?_)))));obtain ⟨y158,e159,h⟩:=obind h;refine k_slcT rfl (.some rfl) .none e159 (k_mov rfl ?_);obtain ⟨y160,e161,h⟩:=obind h;refine k_call (.cons rfl rfl (.cons rfl rfl .nil)) (s37  e161) (.inl rfl) ?_;rintro _ rfl;refine k_nil (wpE_cond (p:=y160) rfl (fun g163=>?_) (fun g163=>?_))
       ·have h:=ctrue h g163
        refine e_lastT (by kernel_rfl) (by kernel_rfl) (t_n (k_mov f135 (k_nil (t_n (k_mov f145 (k_nil (t_n (k_mov f135 (k_nil ?_)))))))));refine t_n (k_mov f145 (k_nil ?_));obtain ⟨y164,e165,h⟩:=obind h;refine t_r (S:=[49]) (dep_iadr rfl (sa.lies (hp:=hp139) o136.any)) (k_iadrL rfl o136.any rfl e165 rfl fun p166 c167 q168 h169=>?_);obtain rfl : c167 = [IV.int .i64 y164]:=h169;refine k_nil (t_r (S:=[49]) (dep_load rfl (ep.lies q168)) (k_loadL rfl q168 rfl (k_nil (t_n (k_mov f135 (k_nil (t_n (k_mov f145 (k_nil ?_)))))))));refine t_n (k_mov rfl (k_nil (t_n (k_lenS rfl (k_nil (t_n (k_bin rfl rfl rfl (k_nil ?_))))))));obtain ⟨y170,e171,h⟩:=obind h;refine t_r (S:=[49]) (dep_iadr rfl (sa.lies (hp:=hp139) o136.any)) (k_iadrL rfl o136.any rfl e171 rfl fun p172 c173 q174 h175=>?_);obtain rfl : c173 = [IV.int .i64 y170]:=h175;refine k_nil (t_r (S:=[49]) (dep_load rfl (ep.lies q174)) (k_loadL rfl q174 rfl (k_nil (t_n (k_bin rfl rfl rfl (k_nil (t_n (k_mn2 rfl rfl (k_nil ?_)))))))));obtain ⟨y176,e177,h⟩:=obind h;refine t_r (S:=[49]) (dep_iadr rfl (sa.lies (hp:=hp139) o136.any)) (k_iadrO (sz:=1) rfl o136 rfl (idx_in e177) rfl fun p178 q179=>?_);refine k_nil (t_t (k_storeO (ws:=[IV.int .i64 ((gmin y164 ((IntKind.wrap .i64 (y170 + ((1 : Int)))))))]) (o:=0) (sz:=1) (u':=(gmin y164 ((IntKind.wrap .i64 (y170 + ((1 : Int))))))) rfl q179 rfl rfl rfl e177 (by decide) rfl (fun _ hc=>stoAll hc rfl) fun hp180 k181 r182=>?_))
        obtain ⟨l183,e184,h⟩:=bnd_e h;have o185:=e184 ▸ k181;have r187 : Fr [49] hp109 hp180:=Fr.ext r141 r182 rfl;refine k_nil ⟨r182,?_⟩;refine t_nil (e_last (k_bin f137 rfl rfl (k_mov rfl (k_nil ?_))));cases h
        exact ⟨rfl,⟨_,f135,((o185).wide rfl)⟩,rfl,(by repeat (first | exact k140 | refine Keep.upd ?_ rfl _)),r187⟩
       ·have h:=cfalse h g163
        refine wpE_skip (e_last (k_bin f137 rfl rfl (k_mov rfl (k_nil ?_))));cases h
        exact ⟨rfl,⟨_,f135,((o136).wide rfl)⟩,rfl,(by repeat (first | exact k140 | refine Keep.upd ?_ rfl _)),r141⟩
      ·have h:=cfalse h g151
       refine wpE_exit ?_;cases h
       exact ⟨by decide,rfl,⟨_,f135,((o136).wide rfl)⟩,(by repeat (first | exact k140 | refine Keep.upd ?_ rfl _)),r141⟩
     rintro _ σ192 hp193 _ ⟨rfl,⟨a196,f197,o198⟩,k194,r195⟩;have f202:=(k194 12 rfl).trans f125;have k203 : Keep [] 12 87 σ81 σ192:=Keep.trans k121 (Keep.sub k194 rfl);have r204 : Fr [49] hp75 hp193:=Fr.ext r115 r195 rfl;refine e_last (k_mov f202 (k_bin rfl rfl rfl (k_mov rfl ?_)));obtain ⟨u206,e207,h⟩:=bnd_e h;refine k_nil ?_;cases h
     exact ⟨rfl,⟨_,f197,((o198).wide rfl)⟩,(cgI e207),(by repeat (first | exact k203 | refine Keep.upd ?_ rfl _)),r204⟩
    ·have h:=cfalse h g104
     refine wpE_exit ?_;cases h
     exact ⟨by decide,rfl,⟨_,f93,((o94).wide rfl)⟩,(by repeat (first | exact k98 | refine Keep.upd ?_ rfl _)),r99⟩
   rintro _ σ209 hp210 _ ⟨rfl,⟨a213,f214,o215⟩,k211,r212⟩;have f216:=(k211 0 rfl).trans f83;have f217:=(k211 1 rfl).trans f84;have f218:=(k211 8 rfl).trans f85;have o219:=o78.fr r212 rfl;refine wpE_seq (e_reg (k_mov f214 ?_));obtain ⟨y220,e221,h⟩:=obind h;refine k_iadrL rfl o215.any rfl e221 rfl fun p222 c223 q224 h225=>?_;obtain rfl : c223 = [IV.int .i64 y220]:=h225;refine k_loadL rfl q224 rfl (k_bin rfl rfl rfl (k_nil (wpE_cond (p:=(decide (y220 ≥ ((31 : Int))))) rfl (fun g226=>?_) (fun g226=>?_))))
   ·have h:=ctrue h g226
    refine e_reg (k_mov rfl (k_mov rfl (k_mov rfl (k_nil (wpE_ret ?_)))));cases h
    exact e_ret (ct:=0) (.tmp rfl (back_c (backC_inl fun _=>sv_fresh (sv_nil Rep.str true))) (.tmp rfl (back_sc rfl) (.tmp rfl (back_sc rfl) .nil))) ⟨IV.nilS,rfl,(sv_nil Rep.str true)⟩
   ·have h:=cfalse h g226
    refine wpE_skip (e_reg (k_mov rfl (k_nil (wpE_seq (e_reg (k_mov rfl (k_nil (wpE_block (gE fun σ227 e228=>?_)))))))));have f229:=(congrFun e228 0).trans f216;have f230:=(congrFun e228 1).trans f217;have f231:=(congrFun e228 8).trans f218;have f232:=(congrFun e228 11).trans f214;have f233 : σ227 15 = .v (.c ((I .nilS))):=(congrFun e228 15).trans rfl;have f234 : σ227 16 = V (.int .i64 ((0 : Int))):=(congrFun e228 16).trans rfl;obtain ⟨y388,h236,h⟩:=obind h;refine wpE_mono (e_loop h236 (I:=fun s σ' hp' _=>(∃ a,σ' 15 = .v (.c a) ∧ so [129] Rep.str true hp' a s.1) ∧ σ' 16 = V (.int .i64 s.2) ∧ Keep [] 15 134 σ227 σ' ∧ Fr [129] hp210 hp') (X:=fun e ex σ' hp' _=>ex = .exit 6 ∧ (∃ a,σ' 15 = .v (.c a) ∧ so [129] Rep.str true hp' a e) ∧ Keep [] 15 134 σ227 σ' ∧ Fr [129] hp210 hp') ⟨⟨_,f233,(so_nil _ _ _ _)⟩,f234,Keep.refl _ _ _ _,Fr.refl _ _⟩ ?_) ?_
    ·clear h
     rintro ⟨w237,w238⟩ o σ243 hp244 _ h ⟨⟨a239,f240,o241⟩,f242,k245,r246⟩;have h : uF8c x0 x1 y62 y208 w237 w238 = some o:=h; unfold uF8c at h;have f247:=(k245 0 rfl).trans f229;have f248:=(k245 1 rfl).trans f230;have f249:=(k245 8 rfl).trans f231;have f250:=(k245 11 rfl).trans f232;have o251:=o219.fr r246 rfl;have o252:=o215.fr r246 rfl;refine wpE_seq (e_reg (k_mov f242 (k_mov f247 (k_lenS rfl (k_bin rfl rfl rfl (k_nil (wpE_cond (p:=(decide (w238 < ((List.length x0 : Int))))) rfl (fun g253=>?_) (fun g253=>?_))))))))
     ·have h:=ctrue h g253
      refine wpE_skip (wpE_block (e_reg (k_mov f249 (k_len rfl o251.any (k_mov rfl (k_nil (wpE_block (gE fun σ254 e255=>?_))))))));have k256 : Keep [] 15 134 σ227 σ254:=by rw [e255]; repeat (first | exact k245 | refine Keep.upd ?_ rfl _)
      have f257:=(congrFun e255 0).trans f247;have f258:=(congrFun e255 1).trans f248;have f260:=(congrFun e255 11).trans f250;have f261:=(congrFun e255 15).trans f240;have f262:=(congrFun e255 16).trans f242;have f263 : σ254 96 = .v (.c a67):=(congrFun e255 96).trans rfl;have f264 : σ254 97 = V (.int .i64 ((List.length y62 : Int))):=(congrFun e255 97).trans rfl;have f265 : σ254 98 = V (.int .i64 ((0 : Int))):=(congrFun e255 98).trans rfl;obtain ⟨e266,h267,h⟩:=obind h;refine wpE_mono (e_loop h267 (I:=fun s σ' hp' _=>(∃ a,σ' 15 = .v (.c a) ∧ so [129] Rep.str true hp' a s.1) ∧ σ' 16 = V (.int .i64 s.2.1) ∧ σ' 98 = V (.int .i64 s.2.2) ∧ Keep [15,16,17,18] 98 134 σ254 σ' ∧ Fr [129] hp244 hp') (X:=fun e ex σ' hp' _=>ex = .exit 8 ∧ (∃ a,σ' 15 = .v (.c a) ∧ so [129] Rep.str true hp' a e.1) ∧ σ' 16 = V (.int .i64 e.2) ∧ Keep [15,16,17,18] 98 134 σ254 σ' ∧ Fr [129] hp244 hp') ⟨⟨_,f261,((o241).wide rfl)⟩,f262,f265,Keep.refl _ _ _ _,Fr.refl _ _⟩ ?_) ?_
      ·clear h
       rintro ⟨w268,w269,w270⟩ o σ276 hp277 _ h ⟨⟨a271,f272,o273⟩,f274,f275,k278,r279⟩;have h : uF8e x0 x1 y62 y208 w268 w269 w270 = some o:=h; unfold uF8e at h;have f280:=(k278 0 rfl).trans f257;have f281:=(k278 1 rfl).trans f258;have f283:=(k278 11 rfl).trans f260;have f284:=(k278 96 rfl).trans f263;have f285:=(k278 97 rfl).trans f264;have o288:=o251.fr r279 rfl;have o289:=o252.fr r279 rfl;refine e_reg (k_bin f275 f285 rfl (k_nil (wpE_seq (wpE_cond (p:=(decide (w270 < ((List.length y62 : Int))))) rfl (fun g290=>?_) (fun g290=>?_)))))
       ·have h:=ctrue h g290
        refine wpE_skip (wpE_seq (wpE_block (e_reg (k_mov f275 ?_))));obtain ⟨y291,e292,h⟩:=obind h;refine k_iadrL f284 o288.any f275 e292 rfl fun p293 c294 q295 h296=>?_;obtain rfl : c294 = [IV.str y291]:=h296;refine k_loadL rfl q295 rfl (k_mov rfl (k_mov rfl (k_nil (e_regD (by kernel_rfl) (by kernel_rfl) (k_mov f280 (k_mov f274 ?_))))));obtain ⟨y297,e298,h⟩:=obind h;refine k_slcT rfl (.some rfl) .none e298 (k_mov rfl ?_);obtain ⟨y299,e300,h⟩:=obind h;refine k_call (.cons rfl rfl (.cons rfl rfl .nil)) (s37  e300) (.inl rfl) ?_;rintro _ rfl;refine k_mov rfl (gL fun σ302 e303=>?_);have k305 : Keep [15,16,17,18] 98 134 σ254 σ302:=by rw [e303]; repeat (first | exact k278 | refine Keep.upd ?_ rfl _)
        have f307:=(congrFun e303 1).trans f281;have f309:=(congrFun e303 11).trans f283;have f310:=(congrFun e303 15).trans f272;have f311:=(congrFun e303 16).trans f274;have f314:=(congrFun e303 98).trans f275;have f315 : σ302 17 = V (.int .i64 w270):=(congrFun e303 17).trans rfl;have f316 : σ302 18 = V (.str y291):=(congrFun e303 18).trans rfl;have f317 : σ302 108 = V (.bool y299):=(congrFun e303 108).trans rfl;obtain ⟨y331,e332,h⟩:=obind h;refine k_mid (fun σ' hp' _=>hp277 = hp' ∧ σ' 122 = V (.bool y331) ∧ Keep [] 109 122 σ302 σ') ?_ ?_
        ·rcases bt y299 with g318 | g318
         ·have h:=ctrue e332 g318
          refine k_yes (f317.trans (cgB g318)) (k_mov f309 (k_yes (f317.trans (cgB g318)) (k_mov f311 (k_yes (f317.trans (cgB g318)) (k_mov f316 (k_yes (f317.trans (cgB g318)) (k_lenS rfl (k_yes (f317.trans (cgB g318)) (k_bin rfl rfl rfl ?_)))))))));refine k_yes (f317.trans (cgB g318)) ?_;obtain ⟨y319,e320,h⟩:=obind h;refine k_iadrL rfl o289.any rfl e320 rfl fun p321 c322 q323 h324=>?_;obtain rfl : c322 = [IV.int .i64 y319]:=h324;refine k_yes (f317.trans (cgB g318)) (k_loadL rfl q323 rfl (k_yes (f317.trans (cgB g318)) (k_bin rfl rfl rfl (k_yes (f317.trans (cgB g318)) (k_mov f309 (k_yes (f317.trans (cgB g318)) (k_mov f311 (k_yes (f317.trans (cgB g318)) ?_))))))));obtain ⟨y325,e326,h⟩:=obind h;refine k_iadrL rfl o289.any rfl e326 rfl fun p327 c328 q329 h330=>?_;obtain rfl : c328 = [IV.int .i64 y325]:=h330;refine k_yes (f317.trans (cgB g318)) (k_loadL rfl q329 rfl (k_yes (f317.trans (cgB g318)) (k_bin rfl rfl rfl (k_pickT (f317.trans (cgB g318)) rfl ?_))));exact ⟨rfl,cgB (Option.some.inj h),(by repeat (first | exact (Keep.refl _ _ _ _) | refine Keep.upd ?_ rfl _))⟩
         ·have h:=cfalse e332 g318
          refine k_no (f317.trans (cgB g318)) rfl (k_no (f317.trans (cgB g318)) rfl (k_no (f317.trans (cgB g318)) rfl (k_no (f317.trans (cgB g318)) rfl (k_no (f317.trans (cgB g318)) rfl (k_no (f317.trans (cgB g318)) rfl (k_no (f317.trans (cgB g318)) rfl (k_no (f317.trans (cgB g318)) rfl (k_no (f317.trans (cgB g318)) rfl (k_no (f317.trans (cgB g318)) rfl ?_)))))))));refine k_no (f317.trans (cgB g318)) rfl (k_no (f317.trans (cgB g318)) rfl (k_no (f317.trans (cgB g318)) rfl (k_pickF (f317.trans (cgB g318)) rfl ?_)));exact ⟨rfl,cgB (Option.some.inj h),(by repeat (first | exact (Keep.refl _ _ _ _) | refine Keep.upd ?_ rfl _))⟩
        rintro σ333 _ _ ⟨rfl,f335,k334⟩;have f337:=(k334 1 rfl).trans f307;have f340:=(k334 15 rfl).trans f310;have f341:=(k334 16 rfl).trans f311;have f344:=(k334 98 rfl).trans f314;have f345:=(k334 17 rfl).trans f315;have f346:=(k334 18 rfl).trans f316;have k348 : Keep [15,16,17,18] 98 134 σ254 σ333:=Keep.trans k305 (Keep.sub k334 rfl);refine k_nil (wpE_cond (p:=y331) f335 (fun g349=>?_) (fun g349=>?_))
        ·have h:=ctrue h g349
         refine e_reg (k_mov f340 (k_mov f337 (k_mov f345 ?_)));obtain ⟨y350,e351,h⟩:=obind h;refine k_iadrL rfl (sv.any [] _ hx1) rfl e351 rfl fun p352 c353 q354 h355=>?_;obtain rfl : c353 = [IV.str y350]:=h355;refine k_loadL rfl q354 rfl (k_bslI (len:=1) (z:=IV.str []) (vs:=[IV.str y350]) (.cons rfl .nil) (by decide) rfl ?_);have o356 : sv Rep.str true (.lit 0 [IV.str y350] 1) ([y350] : List (List UInt8)):=sv_lit true (⟨[IV.str y350],_,rfl,rfl,rfl⟩) rfl;obtain ⟨y362,e363,h⟩:=obind h;refine k_app (E:=Rep.str) (f:=true) rfl o273 rfl (sv.any [] _ o356) e363 rfl fun a357 hp358 ct359 o360 r361=>?_;have r365 : Fr [129] hp244 hp358:=Fr.ext r279 r361 rfl;refine k_mov f341 (k_mov f346 (k_lenS rfl (k_bin rfl rfl rfl (k_mov rfl (k_mov rfl ?_)))));obtain ⟨u368,e369,h⟩:=bnd_e h;refine k_nil (wpE_exit ?_);cases h
         exact ⟨by decide,rfl,⟨_,rfl,((o360).wide rfl)⟩,(cgI e369),(by repeat (first | exact k348 | refine Keep.upd ?_ rfl _)),r365⟩
        ·have h:=cfalse h g349
         refine wpE_skip (e_last (k_bin f344 rfl rfl (k_mov rfl (k_nil ?_))));cases h
         exact ⟨rfl,⟨_,f340,((o273).wide rfl)⟩,f341,rfl,(by repeat (first | exact k348 | refine Keep.upd ?_ rfl _)),r279⟩
       ·have h:=cfalse h g290
        refine wpE_exit ?_;cases h
        exact ⟨by decide,rfl,⟨_,f272,((o273).wide rfl)⟩,f274,(by repeat (first | exact k278 | refine Keep.upd ?_ rfl _)),r279⟩
      obtain ⟨y370,y371⟩:=e266;rintro _ σ372 hp373 _ ⟨rfl,⟨a376,f377,o378⟩,f379,k374,r375⟩;have k384 : Keep [] 15 134 σ227 σ372:=Keep.trans k256 (Keep.sub k374 rfl);have r385 : Fr [129] hp210 hp373:=Fr.ext r246 r375 rfl;cases h
      exact ⟨rfl,⟨_,f377,((o378).wide rfl)⟩,f379,(by repeat (first | exact k384 | refine Keep.upd ?_ rfl _)),r385⟩
     ·have h:=cfalse h g253
      refine wpE_exit ?_;cases h
      exact ⟨by decide,rfl,⟨_,f240,((o241).wide rfl)⟩,(by repeat (first | exact k245 | refine Keep.upd ?_ rfl _)),r246⟩
    rintro _ σ389 hp390 _ ⟨rfl,⟨a393,f394,o395⟩,k391,r392⟩;refine e_reg (k_mov f394 (k_mov rfl (k_mov rfl (k_mov rfl (k_nil (wpE_ret ?_))))));obtain ⟨v396,q397,q398⟩:=(o395.any).back lent hl [] rfl;cases h
    exact e_ret (ct:=0) (.tmp rfl (back_c q397) (.tmp rfl (back_sc rfl) (.tmp rfl (back_sc rfl) .nil))) ⟨v396,rfl,q398⟩
theorem s39 {X : Run} [Up (xRun kx) X] {x0 : Int} {x1 : Int} {x2 : Int} {r : Bool}  (h : uF39 x0 x1 x2 = some r) : pc (L X) 39 [.c (I (.int .i64 x0)),.c (I (.int .i64 x1)),.c (I (.int .i64 x2))] true (P39 r):=by
 refine fn_pure (fn:=ir39) rfl (nlt rfl) fun lent hl=>?_;unfold uF39 at h;refine e_reg (k_mov rfl (k_nil (e_reg (k_mov rfl (k_mov rfl (k_bin rfl rfl rfl (k_mov rfl (gL fun σ1 e2=>?_))))))));have f3 : σ1 0 = V (.int .i64 x0):=(congrFun e2 0).trans rfl;have f4 : σ1 2 = V (.int .i64 x2):=(congrFun e2 2).trans rfl;have f5 : σ1 10 = V (.bool ((decide (x1 ≤ x0)))):=(congrFun e2 10).trans rfl;refine k_mid (fun σ' hp' _=>[] = hp' ∧ σ' 14 = V (.bool (((decide (x1 ≤ x0)) && (decide (x0 ≤ x2))))) ∧ Keep [] 11 14 σ1 σ') ?_ ?_
 ·rcases bt ((decide (x1 ≤ x0))) with g6 | g6
  ·refine k_yes (f5.trans (cgB g6)) ?_
   refine k_mov f3 (k_yes (f5.trans (cgB g6)) (k_mov f4 (k_yes (f5.trans (cgB g6)) (k_bin rfl rfl rfl (k_pickT (f5.trans (cgB g6)) rfl ?_)))));exact ⟨rfl,cgB (by rw [g6]; rfl),(by repeat (first | exact (Keep.refl _ _ _ _) | refine Keep.upd ?_ rfl _))⟩
  ·refine k_no (f5.trans (cgB g6)) rfl ?_
   refine k_no (f5.trans (cgB g6)) rfl (k_no (f5.trans (cgB g6)) rfl (k_pickF (f5.trans (cgB g6)) rfl ?_));exact ⟨rfl,cgB (by rw [g6]; rfl),(by repeat (first | exact (Keep.refl _ _ _ _) | refine Keep.upd ?_ rfl _))⟩
 rintro σ7 _ _ ⟨rfl,f9,k8⟩;refine k_mov f9 ?_;obtain ⟨u10,e11,h⟩:=bnd_e h;refine k_nil (wpE_ret ?_);cases h
 exact e_ret (ct:=0) (.tmp (cgB e11) (back_sc rfl) .nil) rfl
theorem s38 {X : Run} [Up (xRun kx) X] {x0 : List UInt8} {x1 : Int} {x2 : Int} {r : Bool}  (h : uF38 x0 x1 x2 = some r) : pc (L X) 38 [.c (I (.str x0)),.c (I (.int .i64 x1)),.c (I (.int .i64 x2))] true (P38 r):=by
 refine fn_pure (fn:=ir38) rfl (nlt rfl) fun lent hl=>?_;unfold uF38 at h;refine e_reg (k_mov rfl (k_nil (e_reg (k_mov rfl (k_lenS rfl (k_mov rfl (k_mov rfl ?_)))))));obtain ⟨y1,e2,h⟩:=obind h;refine k_call (.cons rfl rfl (.cons rfl rfl (.cons rfl rfl .nil))) (s39  e2) (.inl rfl) ?_;rintro _ rfl;refine k_mov rfl (gL fun σ4 e5=>?_);have f6 : σ4 0 = V (.str x0):=(congrFun e5 0).trans rfl;have f7 : σ4 12 = V (.bool y1):=(congrFun e5 12).trans rfl;obtain ⟨y12,e13,h⟩:=obind h;refine k_mid (fun σ' hp' _=>[] = hp' ∧ σ' 16 = V (.bool y12) ∧ Keep [] 13 16 σ4 σ') ?_ ?_
 ·rcases bt y1 with g8 | g8
  ·have h:=ctrue e13 g8
   refine k_yes (f7.trans (cgB g8)) (k_mov f6 (k_yes (f7.trans (cgB g8)) ?_));obtain ⟨y9,e10,h⟩:=obind h;refine k_call (.cons rfl rfl (.cons rfl rfl .nil)) (s40  e10) (.inl rfl) ?_;rintro _ rfl;refine k_yes (f7.trans (cgB g8)) (k_bin rfl rfl rfl (k_pickT (f7.trans (cgB g8)) rfl ?_));exact ⟨rfl,cgB (Option.some.inj h),(by repeat (first | exact (Keep.refl _ _ _ _) | refine Keep.upd ?_ rfl _))⟩
  ·have h:=cfalse e13 g8
   refine k_no (f7.trans (cgB g8)) rfl (k_no (f7.trans (cgB g8)) rfl (k_no (f7.trans (cgB g8)) rfl (k_pickF (f7.trans (cgB g8)) rfl ?_)));exact ⟨rfl,cgB (Option.some.inj h),(by repeat (first | exact (Keep.refl _ _ _ _) | refine Keep.upd ?_ rfl _))⟩
 rintro σ14 _ _ ⟨rfl,f16,k15⟩;refine k_mov f16 (k_nil (wpE_ret ?_));cases h
 exact e_ret (ct:=0) (.tmp rfl (back_sc rfl) .nil) rfl
theorem s9 {X : Run} [Up (xRun kx) X] {x0 : List UInt8} {x1 : List (List UInt8)} {vx1 : IV} {r : Int} (hx1 : sv Rep.str false vx1 x1) (h : uF9 x0 x1 = some r) : pc (L X) 9 [.c (I (.str x0)),.c (I vx1)] true (P9 r):=by
 refine fn_pure (fn:=ir9) rfl (nlt rfl) fun lent hl=>?_;unfold uF9 at h;refine e_reg (k_mov rfl (k_nil (wpE_seq (wpE_block (e_reg (k_mov rfl ?_))))));obtain ⟨y1,e2,h⟩:=obind h;refine k_call (.cons rfl rfl (.cons rfl rfl (.cons rfl rfl .nil))) (s38  e2) (.inl rfl) ?_;rintro _ rfl;refine k_not rfl (k_mov rfl (k_nil (wpE_cond (p:=(!y1)) rfl (fun g4=>?_) (fun g4=>?_))))
 ·have h:=ctrue h g4
  refine e_reg (k_mov rfl (k_nil (wpE_ret ?_)));cases h
  exact e_ret (ct:=0) (.tmp rfl (back_sc rfl) .nil) rfl
 ·have h:=cfalse h g4
  refine e_reg (k_mov rfl (k_len rfl (sv.any [] _ hx1) (k_bin rfl rfl rfl (k_mov rfl ?_))));obtain ⟨u5,e6,h⟩:=bnd_e h;refine k_nil (wpE_cond (p:=u5) (cgB e6) (fun g7=>?_) (fun g7=>?_))
  ·have h:=ctrue h g7
   refine e_reg (k_mov rfl (k_nil (wpE_ret ?_)));cases h
   exact e_ret (ct:=0) (.tmp rfl (back_sc rfl) .nil) rfl
  ·have h:=cfalse h g7
   refine wpE_skip (wpE_seq (e_reg (k_mov rfl (k_len rfl (sv.any [] _ hx1) (k_mov rfl (k_nil (wpE_block (gE fun σ8 e9=>?_))))))));have f10 : σ8 1 = .v (.c ((I vx1))):=(congrFun e9 1).trans rfl;have f11 : σ8 15 = .v (.c ((I vx1))):=(congrFun e9 15).trans rfl;have f12 : σ8 16 = V (.int .i64 ((List.length x1 : Int))):=(congrFun e9 16).trans rfl;have f13 : σ8 17 = V (.int .i64 ((0 : Int))):=(congrFun e9 17).trans rfl;obtain ⟨e14,h15,h⟩:=lret_e h;refine wpE_mono (e_loop h15 (I:=fun s σ' hp' _=>σ' 17 = V (.int .i64 s) ∧ Keep [4,5,6] 17 42 σ8 σ' ∧ [] = hp') (X:=fun e ex σ' hp' _=>match e with | .inl e=>ex = .exit 1 ∧ Keep [4,5,6] 17 42 σ8 σ' ∧ [] = hp' | .inr r=>ex = .ret ∧ ∀ ct,atEnd 43 [Res.tmp 4] (fin lent (P9 r)) .ret σ' hp' ct) ⟨f13,Keep.refl _ _ _ _,rfl⟩ ?_) ?_
   ·clear h
    rintro w16 o σ18 _ _ h ⟨f17,k20,rfl⟩;have h : uF9a x1 w16 = some o:=h; unfold uF9a at h;have f22:=(k20 1 rfl).trans f10;have f23:=(k20 15 rfl).trans f11;have f24:=(k20 16 rfl).trans f12;refine e_reg (k_bin f17 f24 rfl (k_nil (wpE_seq (wpE_cond (p:=(decide (w16 < ((List.length x1 : Int))))) rfl (fun g25=>?_) (fun g25=>?_)))))
    ·have h:=ctrue h g25
     refine wpE_skip (wpE_seq (wpE_block (e_reg (k_mov f17 ?_))));obtain ⟨y26,e27,h⟩:=obind h;refine k_iadrL f23 (sv.any [] _ hx1) f17 e27 rfl fun p28 c29 q30 h31=>?_;obtain rfl : c29 = [IV.str y26]:=h31;refine k_loadL rfl q30 rfl (k_mov rfl (k_mov rfl (k_nil (wpE_seq (e_reg (k_mov rfl (k_lenS rfl ?_)))))));obtain ⟨y32,e33,h⟩:=obind h;refine k_call (.cons rfl rfl (.cons rfl rfl (.cons rfl rfl .nil))) (s39  e33) (.inl rfl) ?_;rintro _ rfl;refine k_not rfl (k_mov rfl (gL fun σ35 e36=>?_));have k37 : Keep [4,5,6] 17 42 σ8 σ35:=by rw [e36]; repeat (first | exact k20 | refine Keep.upd ?_ rfl _)
     have f38:=(congrFun e36 1).trans f22;have f41:=(congrFun e36 17).trans f17;have f42 : σ35 5 = V (.int .i64 w16):=(congrFun e36 5).trans rfl;have f43 : σ35 6 = V (.str y26):=(congrFun e36 6).trans rfl;have f44 : σ35 26 = V (.bool (!y32)):=(congrFun e36 26).trans rfl;obtain ⟨y49,e50,h⟩:=obind h;refine k_mid (fun σ' hp' _=>[] = hp' ∧ σ' 30 = V (.bool y49) ∧ Keep [] 27 30 σ35 σ') ?_ ?_
     ·rcases bt (!y32) with g45 | g45
      ·have h:=ctrue e50 g45
       refine k_no (f44.trans (cgB g45)) rfl (k_no (f44.trans (cgB g45)) rfl (k_no (f44.trans (cgB g45)) rfl (k_pickT (f44.trans (cgB g45)) rfl ?_)));exact ⟨rfl,cgB (Option.some.inj h),(by repeat (first | exact (Keep.refl _ _ _ _) | refine Keep.upd ?_ rfl _))⟩
      ·have h:=cfalse e50 g45
       refine k_yes (f44.trans (cgB g45)) (k_mov f43 (k_yes (f44.trans (cgB g45)) ?_));obtain ⟨y46,e47,h⟩:=obind h;refine k_call (.cons rfl rfl (.cons rfl rfl .nil)) (s40  e47) (.inl rfl) ?_;rintro _ rfl;refine k_yes (f44.trans (cgB g45)) (k_bin rfl rfl rfl (k_pickF (f44.trans (cgB g45)) rfl ?_));exact ⟨rfl,cgB (Option.some.inj h),(by repeat (first | exact (Keep.refl _ _ _ _) | refine Keep.upd ?_ rfl _))⟩
     rintro σ51 _ _ ⟨rfl,f53,k52⟩;have f54:=(k52 1 rfl).trans f38;have f57:=(k52 17 rfl).trans f41;have f58:=(k52 5 rfl).trans f42;have f59:=(k52 6 rfl).trans f43;have k60 : Keep [4,5,6] 17 42 σ8 σ51:=Keep.trans k37 (Keep.sub k52 rfl);refine k_nil (wpE_cond (p:=y49) f53 (fun g61=>?_) (fun g61=>?_))
     ·have h:=ctrue h g61
      refine e_reg (k_mov rfl (k_nil (wpE_ret ?_)));cases h
      exact ⟨by decide,rfl,fun _=>e_ret (ct:=0) (.tmp rfl (back_sc rfl) .nil) rfl⟩
     ·have h:=cfalse h g61
      refine wpE_skip (e_reg (k_mov f58 (k_bin rfl rfl rfl (k_mov rfl (gL fun σ62 e63=>?_)))));have k64 : Keep [4,5,6] 17 42 σ8 σ62:=by rw [e63]; repeat (first | exact k60 | refine Keep.upd ?_ rfl _)
      have f65:=(congrFun e63 1).trans f54;have f68:=(congrFun e63 17).trans f57;have f69:=(congrFun e63 5).trans f58;have f70:=(congrFun e63 6).trans f59;have f71 : σ62 33 = V (.bool ((decide (w16 > ((0 : Int)))))):=(congrFun e63 33).trans rfl;obtain ⟨y79,e80,h⟩:=obind h;refine k_mid (fun σ' hp' _=>[] = hp' ∧ σ' 41 = V (.bool y79) ∧ Keep [] 34 41 σ62 σ') ?_ ?_
      ·rcases bt ((decide (w16 > ((0 : Int))))) with g72 | g72
       ·have h:=ctrue e80 g72
        refine k_yes (f71.trans (cgB g72)) (k_mov f70 (k_yes (f71.trans (cgB g72)) (k_mov f65 (k_yes (f71.trans (cgB g72)) (k_mov f69 (k_yes (f71.trans (cgB g72)) (k_bin rfl rfl rfl (k_yes (f71.trans (cgB g72)) ?_))))))));obtain ⟨y73,e74,h⟩:=obind h;refine k_iadrL rfl (sv.any [] _ hx1) rfl e74 rfl fun p75 c76 q77 h78=>?_;obtain rfl : c76 = [IV.str y73]:=h78;refine k_yes (f71.trans (cgB g72)) (k_loadL rfl q77 rfl (k_yes (f71.trans (cgB g72)) (k_bin rfl rfl rfl (k_pickT (f71.trans (cgB g72)) rfl ?_))));exact ⟨rfl,cgB (Option.some.inj h),(by repeat (first | exact (Keep.refl _ _ _ _) | refine Keep.upd ?_ rfl _))⟩
       ·have h:=cfalse e80 g72
        refine k_no (f71.trans (cgB g72)) rfl (k_no (f71.trans (cgB g72)) rfl (k_no (f71.trans (cgB g72)) rfl (k_no (f71.trans (cgB g72)) rfl (k_no (f71.trans (cgB g72)) rfl (k_no (f71.trans (cgB g72)) rfl (k_no (f71.trans (cgB g72)) rfl (k_pickF (f71.trans (cgB g72)) rfl ?_)))))));exact ⟨rfl,cgB (Option.some.inj h),(by repeat (first | exact (Keep.refl _ _ _ _) | refine Keep.upd ?_ rfl _))⟩
      rintro σ81 _ _ ⟨rfl,f83,k82⟩;have f87:=(k82 17 rfl).trans f68;have k88 : Keep [4,5,6] 17 42 σ8 σ81:=Keep.trans k64 (Keep.sub k82 rfl);refine k_nil (wpE_cond (p:=y79) f83 (fun g89=>?_) (fun g89=>?_))
      ·have h:=ctrue h g89
       refine e_reg (k_mov rfl (k_nil (wpE_ret ?_)));cases h
       exact ⟨by decide,rfl,fun _=>e_ret (ct:=0) (.tmp rfl (back_sc rfl) .nil) rfl⟩
      ·have h:=cfalse h g89
       refine wpE_skip (e_last (k_bin f87 rfl rfl (k_mov rfl (k_nil ?_))));cases h
       exact ⟨rfl,rfl,(by repeat (first | exact k88 | refine Keep.upd ?_ rfl _)),rfl⟩
    ·have h:=cfalse h g25
     refine wpE_exit ?_;cases h
     exact ⟨by decide,rfl,(by repeat (first | exact k20 | refine Keep.upd ?_ rfl _)),rfl⟩
   rcases e14 with _ | r1;rotate_left
   ·rintro _ _ _ _ ⟨rfl,hX⟩
    cases h
    exact hX 0
   rintro _ σ90 _ _ ⟨rfl,k92,rfl⟩;refine e_reg (k_mov rfl (k_nil (wpE_ret ?_)));cases h
   exact e_ret (ct:=0) (.tmp rfl (back_sc rfl) .nil) rfl
theorem ready_run : isTrue1 (run tabs fns (xRun kx) 40 20 10 [] []) = true:=by kernel_rfl
theorem s10 {X : Run} [Up (xRun kx) X] {r : Bool} (h : uF10 = some r) : pc (L X) 10 [] true (P10 r):=by
 cases h
 exact pc_trueU (A:=xRun kx) ready_run
theorem s214 {X : Run} [Up (xRun kx) X] {x0 : List UInt8} {x1 : Int} {r : Int} (h : uF214 x0 x1 = some r) : pc (L X) 214 [.c (I (.str x0)),.c (I (.int .u8 x1))] true (P214 r):=by
 cases h
 intro lent _;refine ⟨[.c (I (.int .i64 _))],?_,rfl⟩;unfold pureCall;rw [show (L X) 214 _ [] = some ([.c (I (.int .i64 (Lib.indexByte x0 x1.toNat.toUInt8)))],[]) from lim_xU (A:=xRun kx) rfl _ _ rfl];cases lent <;> rfl
theorem s191 {X : Run} [Up (xRun kx) X] {x0 : List UInt8} {x1 : Int} {r : Int}  (h : uF191 x0 x1 = some r) : pc (L X) 191 [.c (I (.str x0)),.c (I (.int .u8 x1))] true (P191 r):=by
 refine fn_pure (fn:=ir191) rfl (nlt rfl) fun lent hl=>?_;unfold uF191 at h;refine e_reg (k_mov rfl (k_nil (e_reg (k_mov rfl (k_mov rfl ?_)))));obtain ⟨y1,e2,h⟩:=obind h;refine k_call (.cons rfl rfl (.cons rfl rfl .nil)) (s214  e2) (.inl rfl) ?_;rintro _ rfl;refine k_mov rfl (k_nil (wpE_ret ?_));cases h
 exact e_ret (ct:=0) (.tmp rfl (back_sc rfl) .nil) rfl
theorem s148 {X : Run} [Up (xRun kx) X] {x0 : List UInt8} {x1 : Int} {r : Int}  (h : uF148 x0 x1 = some r) : pc (L X) 148 [.c (I (.str x0)),.c (I (.int .u8 x1))] true (P148 r):=by
 refine fn_pure (fn:=ir148) rfl (nlt rfl) fun lent hl=>?_;unfold uF148 at h;refine e_reg (k_mov rfl (k_nil (e_reg (k_mov rfl (k_mov rfl ?_)))));obtain ⟨y1,e2,h⟩:=obind h;refine k_call (.cons rfl rfl (.cons rfl rfl .nil)) (s191  e2) (.inl rfl) ?_;rintro _ rfl;refine k_mov rfl (k_nil (wpE_ret ?_));cases h
 exact e_ret (ct:=0) (.tmp rfl (back_sc rfl) .nil) rfl
theorem s98 {X : Run} [Up (xRun kx) X] {x0 : Int} {r : Int}  (h : uF98 x0 = some r) : pc (L X) 98 [.c (I (.int .u8 x0))] true (P98 r):=by
 refine fn_pure (fn:=ir98) rfl (nlt rfl) fun lent hl=>?_;unfold uF98 at h;refine e_reg (k_mov rfl (k_nil (wpE_seq (e_reg (k_mov rfl (k_bin rfl rfl rfl (k_mov rfl (gL fun σ1 e2=>?_))))))));have f3 : σ1 0 = V (.int .u8 x0):=(congrFun e2 0).trans rfl;have f4 : σ1 6 = V (.bool ((decide (x0 ≥ ((65 : Int)))))):=(congrFun e2 6).trans rfl;refine k_mid (fun σ' hp' _=>[] = hp' ∧ σ' 9 = V (.bool (((decide (x0 ≥ ((65 : Int)))) && (decide (x0 ≤ ((90 : Int))))))) ∧ Keep [] 7 9 σ1 σ') ?_ ?_
 ·rcases bt ((decide (x0 ≥ ((65 : Int))))) with g5 | g5
  ·refine k_yes (f4.trans (cgB g5)) ?_
   refine k_mov f3 (k_yes (f4.trans (cgB g5)) (k_bin rfl rfl rfl (k_pickT (f4.trans (cgB g5)) rfl ?_)));exact ⟨rfl,cgB (by rw [g5]; rfl),(by repeat (first | exact (Keep.refl _ _ _ _) | refine Keep.upd ?_ rfl _))⟩
  ·refine k_no (f4.trans (cgB g5)) rfl ?_
   refine k_no (f4.trans (cgB g5)) rfl (k_pickF (f4.trans (cgB g5)) rfl ?_);exact ⟨rfl,cgB (by rw [g5]; rfl),(by repeat (first | exact (Keep.refl _ _ _ _) | refine Keep.upd ?_ rfl _))⟩
 rintro σ6 _ _ ⟨rfl,f8,k7⟩;have f9:=(k7 0 rfl).trans f3;refine k_nil (gE fun σ10 e11=>?_);have f12:=(congrFun e11 0).trans f9;have f13:=(congrFun e11 9).trans f8;obtain ⟨y16,h15,h⟩:=obind h;refine wpE_mono (Q:=fun ex σ' hp' _=>ex = .normal ∧ σ' 0 = V (.int .u8 y16) ∧ Keep [] 0 11 σ10 σ' ∧ [] = hp') ?_ ?_
 ·clear h; have h:=h15
  refine wpE_cond (p:=((decide (x0 ≥ ((65 : Int)))) && (decide (x0 ≤ ((90 : Int)))))) f13 (fun g17=>?_) (fun g17=>?_)
  ·have h:=ctrue h g17
   refine e_last (k_mov f12 (k_bin rfl rfl rfl (k_mov rfl ?_)));obtain ⟨u18,e19,h⟩:=bnd_e h;refine k_nil ?_;have q0:=Option.some.inj h;obtain rfl:=q0;exact ⟨rfl,(cgI e19),(by repeat (first | exact (Keep.refl _ _ _ _) | refine Keep.upd ?_ rfl _)),rfl⟩
  ·have h:=cfalse h g17
   refine wpE_skip ?_;have q0:=Option.some.inj h;obtain rfl:=q0;exact ⟨rfl,f12,(by repeat (first | exact (Keep.refl _ _ _ _) | refine Keep.upd ?_ rfl _)),rfl⟩
 rintro _ σ21 _ _ ⟨rfl,f20,k23,rfl⟩;refine wpE_seq (e_reg (k_mov f20 ?_));obtain ⟨y25,e26,h⟩:=obind h;refine k_call (.cons rfl rfl (.cons rfl rfl .nil)) (s148  e26) (.inl rfl) ?_;rintro _ rfl;refine k_mov rfl (k_nil (e_reg (k_mov rfl (k_bin rfl rfl rfl (k_nil (wpE_cond (p:=(decide (y25 ≥ ((0 : Int))))) rfl (fun g28=>?_) (fun g28=>?_)))))))
 ·have h:=ctrue h g28
  refine e_reg (k_mov rfl ?_);obtain ⟨y29,e30,h⟩:=obind h;refine k_idxS rfl rfl e30 (k_mov rfl ?_);obtain ⟨u31,e32,h⟩:=bnd_e h;refine k_nil (wpE_ret ?_);cases h
  exact e_ret (ct:=0) (.tmp (cgI e32) (back_sc rfl) .nil) rfl
 ·have h:=cfalse h g28
  refine wpE_skip (wpE_seq (e_reg (k_mov f20 ?_)));obtain ⟨y33,e34,h⟩:=obind h;refine k_call (.cons rfl rfl (.cons rfl rfl .nil)) (s148  e34) (.inl rfl) ?_;rintro _ rfl;refine k_bin rfl rfl rfl (k_nil (wpE_cond (p:=(decide (y33 ≥ ((0 : Int))))) rfl (fun g36=>?_) (fun g36=>?_)))
  ·have h:=ctrue h g36
   refine e_reg (k_mov f20 (k_mov rfl (k_nil (wpE_ret ?_))));cases h
   exact e_ret (ct:=0) (.tmp rfl (back_sc rfl) .nil) rfl
  ·have h:=cfalse h g36
   refine wpE_skip (e_reg (k_mov rfl (k_nil (wpE_ret ?_))));cases h
   exact e_ret (ct:=0) (.tmp rfl (back_sc rfl) .nil) rfl
theorem s42 {X : Run} [Up (xRun kx) X] {x0 : List UInt8} {r : List UInt8 × Int}  (h : uF42 x0 = some r) : pc (L X) 42 [.c (I (.str x0))] true (P42 r):=by
 refine fn_pure (fn:=ir42) rfl (nlt rfl) fun lent hl=>?_;unfold uF42 at h;refine e_reg (k_mov rfl ?_);obtain ⟨u1,e2,h⟩:=bnd_e h;refine k_mov rfl (k_nil (wpE_seq (e_reg (k_mov rfl (k_lenS rfl (k_bin rfl rfl rfl (k_nil (wpE_cond (p:=(decide (((List.length x0 : Int)) > ((60 : Int))))) rfl (fun g3=>?_) (fun g3=>?_)))))))))
 ·have h:=ctrue h g3
  refine e_reg (k_mov rfl ?_);obtain ⟨u4,e5,h⟩:=bnd_e h;refine k_mov rfl (k_nil (wpE_ret ?_));cases h
  exact e_ret (ct:=0) (.tmp (cgS e5) (back_sc rfl) (.tmp rfl (back_sc rfl) .nil)) rfl
 ·have h:=cfalse h g3
  refine wpE_skip (e_reg (k_mov rfl (k_nil (wpE_seq (e_reg (k_mov rfl ?_))))));obtain ⟨y6,e7,h⟩:=obind h;refine k_cvSB (f:=true) rfl e7 fun a8 hp9 o10 r11=>?_;refine k_len rfl o10.any (k_mov rfl (k_nil (wpE_block (gE fun σ12 e13=>?_))));have f14 : σ12 4 = .v (.c ((I .nilS))):=(congrFun e13 4).trans rfl;have f15 : σ12 12 = .v (.c a8):=(congrFun e13 12).trans rfl;have f16 : σ12 13 = V (.int .i64 ((List.length y6 : Int))):=(congrFun e13 13).trans rfl;have f17 : σ12 14 = V (.int .i64 ((0 : Int))):=(congrFun e13 14).trans rfl;obtain ⟨e18,h19,h⟩:=lret_e h;refine wpE_mono (e_loop h19 (I:=fun s σ' hp' _=>(∃ a,σ' 4 = .v (.c a) ∧ so [25] (Rep.int .u8) true hp' a s.1) ∧ σ' 14 = V (.int .i64 s.2) ∧ Keep [2,3,4,6,7] 14 26 σ12 σ' ∧ Fr [25] hp9 hp') (X:=fun e ex σ' hp' _=>match e with | .inl e=>ex = .exit 0 ∧ (∃ a,σ' 4 = .v (.c a) ∧ so [25] (Rep.int .u8) true hp' a e) ∧ Keep [2,3,4,6,7] 14 26 σ12 σ' ∧ Fr [25] hp9 hp' | .inr r=>ex = .ret ∧ ∀ ct,atEnd 29 [Res.tmp 2,Res.tmp 3] (fin lent (P42 r)) .ret σ' hp' ct) ⟨⟨_,f14,(so_nil _ _ _ _)⟩,f17,Keep.refl _ _ _ _,Fr.refl _ _⟩ ?_) ?_
  ·clear h
   rintro ⟨w20,w21⟩ o σ26 hp27 _ h ⟨⟨a22,f23,o24⟩,f25,k28,r29⟩;have h : uF42a y6 w20 w21 = some o:=h; unfold uF42a at h;have f30:=(k28 12 rfl).trans f15;have f31:=(k28 13 rfl).trans f16;have o32:=o10.fr r29 rfl;refine e_reg (k_bin f25 f31 rfl (k_nil (wpE_seq (wpE_cond (p:=(decide (w21 < ((List.length y6 : Int))))) rfl (fun g33=>?_) (fun g33=>?_)))))
   ·have h:=ctrue h g33
    refine wpE_skip (wpE_seq (wpE_block (e_reg ?_)));obtain ⟨y34,e35,h⟩:=obind h;refine k_iadrL f30 o32.any f25 e35 rfl fun p36 c37 q38 h39=>?_;obtain rfl : c37 = [IV.int .u8 y34]:=h39;refine k_loadL rfl q38 rfl (k_mov rfl (k_nil (e_reg (k_mov rfl ?_))));obtain ⟨y40,e41,h⟩:=obind h;refine k_call (.cons rfl rfl .nil) (s98  e41) (.inl rfl) ?_;rintro _ rfl;refine k_mov rfl (k_nil (wpE_seq (e_reg (k_mov rfl (k_bin rfl rfl rfl (k_nil (wpE_cond (p:=(y40 == ((0 : Int)))) rfl (fun g43=>?_) (fun g43=>?_))))))))
    ·have h:=ctrue h g43
     refine e_reg (k_mov rfl ?_);obtain ⟨u44,e45,h⟩:=bnd_e h;refine k_mov rfl (k_nil (wpE_ret ?_));cases h
     exact ⟨by decide,rfl,fun _=>e_ret (ct:=0) (.tmp (cgS e45) (back_sc rfl) (.tmp rfl (back_sc rfl) .nil)) rfl⟩
    ·have h:=cfalse h g43
     refine wpE_skip (e_last (k_mov f23 (k_mov rfl (k_bslI (len:=1) (z:=IV.int .u8 ((0 : Int))) (vs:=[IV.int .u8 y40]) (.cons rfl .nil) (by decide) rfl ?_))));have o46 : sv (Rep.int .u8) true (.lit 0 [IV.int .u8 y40] 1) ([y40] : List Int):=sv_lit true (⟨[IV.int .u8 y40],_,rfl,rfl,rfl⟩) rfl;obtain ⟨y52,e53,h⟩:=obind h;refine k_app (E:=(Rep.int .u8)) (f:=true) rfl o24 rfl (sv.any [] _ o46) e53 rfl fun a47 hp48 ct49 o50 r51=>?_;have r54 : Fr [25] hp9 hp48:=Fr.ext r29 r51 rfl;refine k_mov rfl (k_nil (e_last (k_bin f25 rfl rfl (k_mov rfl (k_nil ?_)))));cases h
     exact ⟨rfl,⟨_,rfl,((o50).wide rfl)⟩,rfl,(by repeat (first | exact k28 | refine Keep.upd ?_ rfl _)),r54⟩
   ·have h:=cfalse h g33
    refine wpE_exit ?_;cases h
    exact ⟨by decide,rfl,⟨_,f23,((o24).wide rfl)⟩,(by repeat (first | exact k28 | refine Keep.upd ?_ rfl _)),r29⟩
  rcases e18 with y56 | r1;rotate_left
  ·rintro _ _ _ _ ⟨rfl,hX⟩
   cases h
   exact hX 0
  rintro _ σ57 hp58 _ ⟨rfl,⟨a61,f62,o63⟩,k59,r60⟩;refine e_reg (k_mov f62 (k_cvBS rfl o63.any (k_mov rfl ?_)));obtain ⟨u64,e65,h⟩:=bnd_e h;refine k_mov rfl (k_nil (wpE_ret ?_));cases h
  exact e_ret (ct:=0) (.tmp (cgS e65) (back_sc rfl) (.tmp rfl (back_sc rfl) .nil)) rfl
theorem s43 {X : Run} [Up (xRun kx) X] {x0 : List (List UInt8)} {vx0 : IV} {r : List (List UInt8)} (hx0 : sv Rep.str false vx0 x0) (h : uF43 x0 = some r) : pc (L X) 43 [.c (I vx0)] true (P43 r):=by
 refine fn_pure (fn:=ir43) rfl (nlt rfl) fun lent hl=>?_;unfold uF43 at h;refine e_reg (k_mov rfl (k_nil (wpE_seq (e_reg (k_mov rfl (k_eqNil rfl (sv.any [] _ hx0) fun b1 g2=>?_))))));refine k_nil (wpE_cond (p:=b1) rfl (fun g3=>?_) (fun g3=>?_))
 ·have h:=nilc_t h (g2 g3)
  refine e_reg (k_mov rfl (k_nil (wpE_ret ?_)));cases h
  exact e_ret (ct:=0) (.tmp rfl (back_c (backC_inl fun _=>sv_fresh (sv_nil Rep.str true))) .nil) ⟨IV.nilS,rfl,(sv_nil Rep.str true)⟩
 ·have h:=nilc_f h
  refine wpE_skip (e_reg (k_bslIN (E:=Rep.str) (f:=true) (len:=0) (z:=IV.str []) (vs:=[]) (xs:=([] : List (List UInt8))) .nil (by decide) rfl (rfl) rfl rfl fun a5 hp6 o7 n9 r8=>?_));refine k_mov rfl ?_;obtain ⟨y15,e16,h⟩:=obind h;refine k_appXC (E:=Rep.str) (f:=true) rfl o7 n9 rfl (sv.any [] _ hx0) (fun _=>rows_strong (fun _ _ h=>h)) e16 rfl fun a10 hp11 ct12 o13 n17 r14=>?_;refine k_mov rfl (k_nil (wpE_ret ?_));obtain ⟨v18,q19,q20⟩:=(o13.any).back lent hl [] rfl;cases h
  exact e_ret (ct:=0) (.tmp rfl (back_c q19) .nil) ⟨v18,rfl,q20⟩
theorem o43 {X : Run} [Up (xRun kx) X] {x0 : List (List UInt8)} {vx0 : IV} {r : List (List UInt8)} (hx0 : sv Rep.str false vx0 x0) (h : uF43 x0 = some r) : ownC (L X) 43 [.c (I vx0)] [] (O43 r):=by
 refine fn_own0 (fn:=ir43) rfl (nlt rfl) ?_;unfold uF43 at h;refine e_reg (k_mov rfl (k_nil (wpE_seq (e_reg (k_mov rfl (k_eqNil rfl (sv.any [] _ hx0) fun b1 g2=>?_))))));refine k_nil (wpE_cond (p:=b1) rfl (fun g3=>?_) (fun g3=>?_))
 ·have h:=nilc_t h (g2 g3)
  refine e_reg (k_mov rfl (k_nil (wpE_ret ?_)));cases h
  exact e_own (ct:=0) (.tmp rfl .nil) ⟨_,rfl,(so_nil _ _ _ _)⟩
 ·have h:=nilc_f h
  refine wpE_skip (e_reg (k_bslIN (E:=Rep.str) (f:=true) (len:=0) (z:=IV.str []) (vs:=[]) (xs:=([] : List (List UInt8))) .nil (by decide) rfl (rfl) rfl rfl fun a5 hp6 o7 n9 r8=>?_));refine k_mov rfl ?_;obtain ⟨y15,e16,h⟩:=obind h;refine k_appXC (E:=Rep.str) (f:=true) rfl o7 n9 rfl (sv.any [] _ hx0) (fun _=>rows_strong (fun _ _ h=>h)) e16 rfl fun a10 hp11 ct12 o13 n17 r14=>?_;refine k_mov rfl (k_nil (wpE_ret ?_));cases h
  exact e_own (ct:=0) (.tmp rfl .nil) ⟨_,rfl,(o13.wide rfl)⟩
theorem s115 {X : Run} [Up (xRun kx) X] {x0 : List UInt8} {r : Bool}  (h : uF115 x0 = some r) : pc (L X) 115 [.c (I (.str x0))] true (P115 r):=by
 refine fn_pure (fn:=ir115) rfl (nlt rfl) fun lent hl=>?_;unfold uF115 at h;refine e_reg (k_mov rfl (k_nil (e_reg (k_mov rfl (k_mov rfl (k_bin rfl rfl rfl (k_mov rfl ?_)))))));obtain ⟨u1,e2,h⟩:=bnd_e h;refine k_nil (wpE_ret ?_);cases h
 exact e_ret (ct:=0) (.tmp (cgB e2) (back_sc rfl) .nil) rfl
theorem s99 {X : Run} [Up (xRun kx) X] {x0 : List UInt8} {x1 : List UInt8} {r : Int}  (h : uF99 x0 x1 = some r) : pc (L X) 99 [.c (I (.str x0)),.c (I (.str x1))] true (P99 r):=by
 refine fn_pure (fn:=ir99) rfl (nlt rfl) fun lent hl=>?_;unfold uF99 at h;refine e_reg (k_mov rfl (k_nil (e_reg (k_mov rfl ?_))));obtain ⟨y1,e2,h⟩:=obind h;refine k_call (.cons rfl rfl .nil) (s115  e2) (.inl rfl) ?_;rintro _ rfl;refine k_mov rfl (k_nil (e_reg (k_mov rfl ?_)));obtain ⟨y4,e5,h⟩:=obind h;refine k_call (.cons rfl rfl .nil) (s115  e5) (.inl rfl) ?_;rintro _ rfl;refine k_mov rfl (k_nil (wpE_seq (e_reg (k_mov rfl (k_nil (wpE_cond (p:=y1) rfl (fun g7=>?_) (fun g7=>?_)))))))
 ·have h:=ctrue h g7
  refine wpE_seq (e_reg (k_mov rfl (k_nil (wpE_cond (p:=y4) rfl (fun g8=>?_) (fun g8=>?_)))))
  ·have h:=ctrue h g8
   refine e_reg (k_mov rfl (k_nil (wpE_ret ?_)));cases h
   exact e_ret (ct:=0) (.tmp rfl (back_sc rfl) .nil) rfl
  ·have h:=cfalse h g8
   refine wpE_skip (e_reg (k_mov rfl (k_nil (wpE_ret ?_))));cases h
   exact e_ret (ct:=0) (.tmp rfl (back_sc rfl) .nil) rfl
 ·have h:=cfalse h g7
  refine wpE_skip (wpE_seq (e_reg (k_mov rfl (k_nil (wpE_cond (p:=y4) rfl (fun g9=>?_) (fun g9=>?_))))))
  ·have h:=ctrue h g9
   refine e_reg (k_mov rfl (k_nil (wpE_ret ?_)));cases h
   exact e_ret (ct:=0) (.tmp rfl (back_sc rfl) .nil) rfl
  ·have h:=cfalse h g9
   refine wpE_skip (wpE_seq (e_reg (k_mov rfl (k_mov rfl (k_bin rfl rfl rfl (k_nil (wpE_cond (p:=(Op.bytesLess x0 x1)) rfl (fun g10=>?_) (fun g10=>?_))))))))
   ·have h:=ctrue h g10
    refine e_reg (k_mov rfl (k_nil (wpE_ret ?_)));cases h
    exact e_ret (ct:=0) (.tmp rfl (back_sc rfl) .nil) rfl
   ·have h:=cfalse h g10
    refine wpE_skip (wpE_seq (e_reg (k_mov rfl (k_mov rfl (k_bin rfl rfl rfl (k_nil (wpE_cond (p:=(!(Op.bytesLess x0 x1 || x0 == x1))) rfl (fun g11=>?_) (fun g11=>?_))))))))
    ·have h:=ctrue h g11
     refine e_reg (k_mov rfl (k_nil (wpE_ret ?_)));cases h
     exact e_ret (ct:=0) (.tmp rfl (back_sc rfl) .nil) rfl
    ·have h:=cfalse h g11
     refine wpE_skip (e_reg (k_mov rfl (k_nil (wpE_ret ?_))));cases h
     exact e_ret (ct:=0) (.tmp rfl (back_sc rfl) .nil) rfl
theorem s44 {X : Run} [Up (xRun kx) X] {x0 : List (List UInt8)} {vx0 : IV} {x1 : List (List UInt8)} {vx1 : IV} {r : Int} (hx0 : sv Rep.str false vx0 x0) (hx1 : sv Rep.str false vx1 x1) (h : uF44a x0 x1 = some r) : pc (L X) 44 [.c (I vx0),.c (I vx1)] true (P44 r):=by
 refine fn_pure (fn:=ir44) rfl (nlt rfl) fun lent hl=>?_;unfold uF44a at h;refine e_reg (k_mov rfl (k_nil (wpE_seq (e_reg (k_mov rfl (k_len rfl (sv.any [] _ hx0) (k_mov rfl (k_nil (wpE_block ?_)))))))));refine gE fun σ1 e2=>?_;have f3 : σ1 0 = .v (.c ((I vx0))):=(congrFun e2 0).trans rfl;have f4 : σ1 1 = .v (.c ((I vx1))):=(congrFun e2 1).trans rfl;have f5 : σ1 9 = .v (.c ((I vx0))):=(congrFun e2 9).trans rfl;have f6 : σ1 10 = V (.int .i64 ((List.length x0 : Int))):=(congrFun e2 10).trans rfl;have f7 : σ1 11 = V (.int .i64 ((0 : Int))):=(congrFun e2 11).trans rfl;obtain ⟨e8,h9,h⟩:=lret_e h;refine wpE_mono (e_loop h9 (I:=fun s σ' hp' _=>σ' 11 = V (.int .i64 s) ∧ Keep [4,5,6,7,8] 11 30 σ1 σ' ∧ [] = hp') (X:=fun e ex σ' hp' _=>match e with | .inl e=>ex = .exit 0 ∧ Keep [4,5,6,7,8] 11 30 σ1 σ' ∧ [] = hp' | .inr r=>ex = .ret ∧ ∀ ct,atEnd 36 [Res.tmp 4] (fin lent (P44 r)) .ret σ' hp' ct) ⟨f7,Keep.refl _ _ _ _,rfl⟩ ?_) ?_
 ·clear h
  rintro w10 o σ12 _ _ h ⟨f11,k14,rfl⟩;have h : uF44 x0 x1 w10 = some o:=h; unfold uF44 at h;have f17:=(k14 1 rfl).trans f4;have f18:=(k14 9 rfl).trans f5;have f19:=(k14 10 rfl).trans f6;refine e_reg (k_bin f11 f19 rfl (k_nil (wpE_seq (wpE_cond (p:=(decide (w10 < ((List.length x0 : Int))))) rfl (fun g20=>?_) (fun g20=>?_)))))
  ·have h:=ctrue h g20
   refine wpE_skip (wpE_seq (wpE_block (e_reg (k_mov f11 ?_))));obtain ⟨y21,e22,h⟩:=obind h;refine k_iadrL f18 (sv.any [] _ hx0) f11 e22 rfl fun p23 c24 q25 h26=>?_;obtain rfl : c24 = [IV.str y21]:=h26;refine k_loadL rfl q25 rfl (k_mov rfl (k_mov rfl (k_nil (wpE_seq (e_reg (k_mov rfl (k_mov f17 (k_len rfl (sv.any [] _ hx1) (k_bin rfl rfl rfl ?_)))))))));refine k_nil (wpE_cond (p:=(decide (w10 ≥ ((List.length x1 : Int))))) rfl (fun g27=>?_) (fun g27=>?_))
   ·have h:=ctrue h g27
    refine e_reg (k_mov rfl (k_nil (wpE_ret ?_)));cases h
    exact ⟨by decide,rfl,fun _=>e_ret (ct:=0) (.tmp rfl (back_sc rfl) .nil) rfl⟩
   ·have h:=cfalse h g27
    refine wpE_skip (e_reg (k_mov f17 (k_mov rfl ?_)));obtain ⟨y28,e29,h⟩:=obind h;refine k_iadrL rfl (sv.any [] _ hx1) rfl e29 rfl fun p30 c31 q32 h33=>?_;obtain rfl : c31 = [IV.str y28]:=h33;refine k_loadL rfl q32 rfl (k_mov rfl (k_nil (e_reg (k_mov rfl (k_mov rfl ?_)))));obtain ⟨y34,e35,h⟩:=obind h;refine k_call (.cons rfl rfl (.cons rfl rfl .nil)) (s99  e35) (.inl rfl) ?_;rintro _ rfl;refine k_mov rfl (k_nil (e_reg (k_mov rfl (k_bin rfl rfl rfl (k_nil (wpE_cond (p:=(y34 != ((0 : Int)))) rfl (fun g37=>?_) (fun g37=>?_)))))))
    ·have h:=ctrue h g37
     refine e_reg (k_mov rfl (k_mov rfl (k_nil (wpE_ret ?_))));cases h
     exact ⟨by decide,rfl,fun _=>e_ret (ct:=0) (.tmp rfl (back_sc rfl) .nil) rfl⟩
    ·have h:=cfalse h g37
     refine wpE_skip (e_last (k_bin f11 rfl rfl (k_mov rfl (k_nil ?_))));cases h
     exact ⟨rfl,rfl,(by repeat (first | exact k14 | refine Keep.upd ?_ rfl _)),rfl⟩
  ·have h:=cfalse h g20
   refine wpE_exit ?_;cases h
   exact ⟨by decide,rfl,(by repeat (first | exact k14 | refine Keep.upd ?_ rfl _)),rfl⟩
 rcases e8 with _ | r1;rotate_left
 ·rintro _ _ _ _ ⟨rfl,hX⟩
  cases h
  exact hX 0
 rintro _ σ38 _ _ ⟨rfl,k40,rfl⟩;have f42:=(k40 0 rfl).trans f3;have f43:=(k40 1 rfl).trans f4;refine wpE_seq (e_reg (k_mov f42 (k_len rfl (sv.any [] _ hx0) (k_mov f43 (k_len rfl (sv.any [] _ hx1) (k_bin rfl rfl rfl (k_nil (wpE_cond (p:=(decide (((List.length x0 : Int)) < ((List.length x1 : Int))))) rfl (fun g44=>?_) (fun g44=>?_)))))))))
 ·have h:=ctrue h g44
  refine e_reg (k_mov rfl (k_nil (wpE_ret ?_)));cases h
  exact e_ret (ct:=0) (.tmp rfl (back_sc rfl) .nil) rfl
 ·have h:=cfalse h g44
  refine wpE_skip (e_reg (k_mov rfl (k_nil (wpE_ret ?_))));cases h
  exact e_ret (ct:=0) (.tmp rfl (back_sc rfl) .nil) rfl
end Go.Proofs.YtameabpbghichaaGreatDoor
