/-
 The small code of functions comes to the Lean functions. Printed by a program of mine.
-/
import Derived.Test.YtoclmbbfdokbhaaGreatDoorHM7Sa
namespace Go.Proofs.YtoclmbbfdokbhaaGreatDoor
open Go Go.Abs
set_option maxRecDepth 100000
set_option maxHeartbeats 8000000
theorem s148 {x0 : List uT1} {vx0 : IV} {x1 : (uT1 → Option Bool)} {fx1 : Nat} {kx1 : List IV} {r : Int} (hx0 : sv uR1 false vx0 x0) (hx1 : CK141 L fx1 kx1 x1) (h : uF148 x0 x1 = some r) : pc L 148 [.c (I vx0),.c (I (.clo fx1 kx1))] true (P148 r):=by
 refine fn_pure (fn:=ir148) rfl (nlt rfl) fun lent hl=>?_;unfold uF148 at h;refine e_reg (k_mov rfl (k_nil (wpE_seq (e_reg (k_mov rfl (k_len rfl (sv.any [] _ hx0) (k_mov rfl (k_nil (wpE_block ?_)))))))));refine gE fun σ1 e2=>?_;have f3 : σ1 0 = .v (.c ((I vx0))):=(congrFun e2 0).trans rfl;have f4 : σ1 1 = .v (.c (I (.clo fx1 kx1))):=(congrFun e2 1).trans rfl;have f5 : σ1 7 = V (.int .i64 ((List.length x0 : Int))):=(congrFun e2 7).trans rfl;have f6 : σ1 8 = V (.int .i64 ((0 : Int))):=(congrFun e2 8).trans rfl;obtain ⟨e7,h8,h⟩:=lret_e h;refine wpE_mono (e_loop h8 (I:=fun s σ' hp' _=>σ' 8 = V (.int .i64 s) ∧ Keep [4,5] 8 18 σ1 σ' ∧ [] = hp') (X:=fun e ex σ' hp' _=>match e with | .inl e=>ex = .exit 0 ∧ Keep [4,5] 8 18 σ1 σ' ∧ [] = hp' | .inr r=>ex = .ret ∧ ∀ ct,atEnd 19 [Res.tmp 4] (fin lent (P148 r)) .ret σ' hp' ct) ⟨f6,Keep.refl _ _ _ _,rfl⟩ ?_) ?_
 ·clear h
  rintro w9 o σ11 _ _ h ⟨f10,k13,rfl⟩;have h : uF148a x0 x1 w9 = some o:=h; unfold uF148a at h;have f15:=(k13 0 rfl).trans f3;have f16:=(k13 1 rfl).trans f4;have f17:=(k13 7 rfl).trans f5;refine e_reg (k_bin f10 f17 rfl (k_nil (wpE_seq (wpE_cond (p:=(decide (w9 < ((List.length x0 : Int))))) rfl (fun g18=>?_) (fun g18=>?_)))))
  ·have h:=ctrue h g18
   refine wpE_skip (wpE_seq (wpE_block (e_reg (k_mov f10 (k_mov rfl (k_nil (e_reg (k_mov f16 (k_mov f15 ?_)))))))));refine k_mov rfl ?_;obtain ⟨y19,e20,h⟩:=obind h;refine k_iadrL rfl (sv.any [] _ hx0) rfl e20 rfl fun p21 c22 q23 h24=>?_;obtain ⟨v25,rfl,q26⟩:=uR1.inv h24;refine k_loadL rfl q23 rfl ?_;obtain ⟨y27,e28,h⟩:=obind h;refine k_callv rfl (.cons rfl rfl .nil) (hx1 _ _ (uR1.mk (sv_retag q26)) _ e28) (.inl rfl) ?_;rintro _ rfl;refine k_nil (wpE_cond (p:=y27) rfl (fun g29=>?_) (fun g29=>?_))
   ·have h:=ctrue h g29
    refine e_reg (k_mov rfl (k_mov rfl (k_nil (wpE_ret ?_))));cases h
    exact ⟨by decide,rfl,fun _=>e_ret (ct:=0) (.tmp rfl (back_sc rfl) .nil) rfl⟩
   ·have h:=cfalse h g29
    refine wpE_skip (e_last (k_bin f10 rfl rfl (k_mov rfl (k_nil ?_))));cases h
    exact ⟨rfl,rfl,(by repeat (first | exact k13 | refine Keep.upd ?_ rfl _)),rfl⟩
  ·have h:=cfalse h g18
   refine wpE_exit ?_;cases h
   exact ⟨by decide,rfl,(by repeat (first | exact k13 | refine Keep.upd ?_ rfl _)),rfl⟩
 rcases e7 with _ | r1;rotate_left
 ·rintro _ _ _ _ ⟨rfl,hX⟩
  cases h
  exact hX 0
 rintro _ σ30 _ _ ⟨rfl,k32,rfl⟩;refine e_reg (k_mov rfl (k_nil (wpE_ret ?_)));cases h
 exact e_ret (ct:=0) (.tmp rfl (back_sc rfl) .nil) rfl
theorem s83 {x0 : List uT1} {vx0 : IV} {x1 : (uT1 → Option Bool)} {fx1 : Nat} {kx1 : List IV} {r : Bool} (hx0 : sv uR1 false vx0 x0) (hx1 : CK141 L fx1 kx1 x1) (h : uF83 x0 x1 = some r) : pc L 83 [.c (I vx0),.c (I (.clo fx1 kx1))] true (P83 r):=by
 refine fn_pure (fn:=ir83) rfl (nlt rfl) fun lent hl=>?_;unfold uF83 at h;refine e_reg (k_mov rfl (k_nil (e_reg (k_mov rfl (k_mov rfl ?_)))));obtain ⟨y1,e2,h⟩:=obind h;refine k_call (.cons rfl rfl (.cons rfl rfl .nil)) (s148 (sv_retag hx0) hx1.re e2) (.inl rfl) ?_;rintro _ rfl;refine k_bin rfl rfl rfl (k_mov rfl ?_);obtain ⟨u4,e5,h⟩:=bnd_e h;refine k_nil (wpE_ret ?_);cases h
 exact e_ret (ct:=0) (.tmp (cgB e5) (back_sc rfl) .nil) rfl
theorem s84 {x0 : uT1} {cx0 : List IV} {r : Bool} (hx0 : uR1.rp false cx0 x0) (h : uF84 x0 = some r) : pc L 84 [.agg (cx0.map I)] true (P84 r):=by
 refine fn_pure (fn:=ir84) rfl (nlt rfl) fun lent hl=>?_;unfold uF84 at h;obtain ⟨v1,rfl,q2⟩:=uR1.inv hx0;refine e_reg (k_box rfl rfl fun g3 hp4 k5 r6=>?_);refine k_mov rfl (k_nil (e_reg (k_fadrB (o:=3) rfl k5 (k_loadB rfl k5 rfl (k_len rfl (sv.any [] _ q2) (k_bin rfl rfl rfl (k_mov rfl ?_)))))));obtain ⟨u7,e8,h⟩:=bnd_e h;refine k_nil (wpE_ret ?_);cases h
 exact e_ret (ct:=0) (.tmp (cgB e8) (back_sc rfl) .nil) rfl
theorem s85 {st : uT0} {c : List IV} {x1 : Int} {r : uT0 × List UInt8} (hs : uR0.rp false c st) (h : uF85a st x1 = some r) : meth L 85 c [.c (I (.int .i64 x1))] (P85 r):=by
 refine fn_meth (fn:=ir85) rfl (nlt rfl) fun hp0 k0=>?_;unfold uF85a at h;obtain ⟨v1,rfl,q2⟩:=uR0.inv hs;refine e_reg (k_mov rfl ?_);obtain ⟨u3,e4,h⟩:=bnd_e h;refine k_nil (e_reg (k_mov rfl ?_));obtain ⟨u5,e6,h⟩:=bnd_e h;refine k_nil (wpE_seq (e_reg (k_mov rfl (k_mov rfl (k_nil (wpE_block (gE fun σ7 e8=>?_)))))));have f9 : σ7 0 = .v (.c (.r (.ptr PB 0 0))):=(congrFun e8 0).trans rfl;have f10 : σ7 5 = V (.str u5):=(congrFun e8 5).trans (cgS e6);have f11 : σ7 6 = V (.int .i64 x1):=(congrFun e8 6).trans rfl;have f12 : σ7 7 = V (.int .i64 ((0 : Int))):=(congrFun e8 7).trans rfl;obtain ⟨e13,h14,h⟩:=obind h;refine wpE_mono (e_loop h14 (I:=fun s σ' hp' _=>σ' 5 = V (.str s.1) ∧ σ' 7 = V (.int .i64 s.2.1) ∧ (∃ c,hp'.get PB = some (.cells 0 (c.map I)) ∧ uR0.rp false c s.2.2) ∧ Keep [5] 7 14 σ7 σ' ∧ Fr [1000000] hp0 hp') (X:=fun e ex σ' hp' _=>ex = .exit 0 ∧ σ' 5 = V (.str e.1) ∧ (∃ c,hp'.get PB = some (.cells 0 (c.map I)) ∧ uR0.rp false c e.2) ∧ Keep [5] 7 14 σ7 σ' ∧ Fr [1000000] hp0 hp') ⟨f10,f12,⟨[v1,IV.int .i64 st.at_],k0,(uR0.mk q2)⟩,Keep.refl _ _ _ _,Fr.refl _ _⟩ ?_) ?_
 ·clear h
  rintro ⟨w15,w16,w17⟩ o σ23 hp24 _ h ⟨f18,f19,⟨c20,k21,h22⟩,k25,r26⟩;have h : uF85 x1 w15 w16 w17 = some o:=h; unfold uF85 at h;have f27:=(k25 0 rfl).trans f9;have f28:=(k25 6 rfl).trans f11;obtain ⟨v29,rfl,q30⟩:=uR0.inv h22;refine e_reg (k_bin f19 f28 rfl (k_nil (wpE_seq (wpE_cond (p:=(decide (w16 < x1))) rfl (fun g31=>?_) (fun g31=>?_)))))
  ·have h:=ctrue h g31
   refine wpE_skip (wpE_seq (wpE_block (e_last (k_mov f18 (k_mov f27 (k_bslI (len:=7) (z:=IV.str []) (vs:=[IV.str [48],IV.str [49],IV.str [50],IV.str [51],IV.str [48],IV.str [57],IV.str [53]]) (.cons rfl (.cons rfl (.cons rfl (.cons rfl (.cons rfl (.cons rfl (.cons rfl .nil))))))) (by decide) rfl ?_))))));have o32 : sv Rep.str true (.lit 0 [IV.str [48],IV.str [49],IV.str [50],IV.str [51],IV.str [48],IV.str [57],IV.str [53]] 7) ([([48] : List UInt8),([49] : List UInt8),([50] : List UInt8),([51] : List UInt8),([48] : List UInt8),([57] : List UInt8),([53] : List UInt8)] : List (List UInt8)):=sv_lit true (⟨[IV.str [48]],_,rfl,rfl,⟨[IV.str [49]],_,rfl,rfl,⟨[IV.str [50]],_,rfl,rfl,⟨[IV.str [51]],_,rfl,rfl,⟨[IV.str [48]],_,rfl,rfl,⟨[IV.str [57]],_,rfl,rfl,⟨[IV.str [53]],_,rfl,rfl,rfl⟩⟩⟩⟩⟩⟩⟩) rfl;obtain ⟨y33,e34,h⟩:=obind h
   refine k_meth (cells:=[v29,IV.int .i64 w17.at_]) rfl k21 (.cons rfl rfl .nil) rfl (s51  (uR0.retag (f:=false) (c:=[v29,IV.int .i64 w17.at_]) (uR0.mk q30)) (sv_retag o32) e34) fun v35 c36 hp37 h38 k39 r40=>?_;obtain ⟨rfl,h41⟩:=h38;obtain ⟨v42,rfl,q43⟩:=uR0.inv h41;have r44 : Fr [1000000] hp0 hp37:=Fr.ext r26 r40 rfl;obtain ⟨y45,e46,h⟩:=obind h;refine k_sadd rfl rfl e46 (k_mov rfl (k_nil (e_last (k_bin f19 rfl rfl (k_mov rfl (k_nil ?_))))));cases h
   exact ⟨rfl,rfl,rfl,⟨[v42,IV.int .i64 y33.1.at_],k39,(uR0.mk q43)⟩,(by repeat (first | exact k25 | refine Keep.upd ?_ rfl _)),r44⟩
  ·have h:=cfalse h g31
   refine wpE_exit ?_;cases h
   exact ⟨by decide,rfl,f18,⟨[v29,IV.int .i64 w17.at_],k21,(uR0.mk q30)⟩,(by repeat (first | exact k25 | refine Keep.upd ?_ rfl _)),r26⟩
 obtain ⟨y47,y48⟩:=e13;rintro _ σ49 hp50 _ ⟨rfl,f53,⟨c54,k55,h56⟩,k51,r52⟩;obtain ⟨v58,rfl,q59⟩:=uR0.inv h56;refine e_reg (k_mov f53 (k_mov rfl (k_nil (wpE_ret ?_))));cases h
 exact e_retM (ct:=0) (cells':=[v58,IV.int .i64 y48.at_]) k55 (fun b g=>(.cons (backC_inl fun q=>nomatch q) (.cons (backC_inl fun q=>nomatch q) .nil))) (fun b g=>(.tmp rfl (back_sc rfl) .nil)) ⟨rfl,(uR0.mk q59)⟩
theorem s27 {st : uT0} {c : List IV} {x1 : List uT1} {vx1 : IV} {r : uT0 × List UInt8} (hs : uR0.rp false c st) (hx1 : sv uR1 false vx1 x1) (h : uF27 st x1 = some r) : meth L 27 c [.c (I vx1)] (P27 r):=by
 refine fn_meth (fn:=ir27) rfl (nlt rfl) fun hp0 k0=>?_;unfold uF27 at h;obtain ⟨v1,rfl,q2⟩:=uR0.inv hs;refine e_reg (k_mov rfl ?_);obtain ⟨u3,e4,h⟩:=bnd_e h;refine k_nil (wpE_seq (e_reg (k_mov rfl ?_)));obtain ⟨y5,e6,h⟩:=obind h;refine k_meth (cells:=[v1,IV.int .i64 st.at_]) rfl k0 (.cons rfl rfl .nil) rfl (s53  (uR0.retag (f:=false) (c:=[v1,IV.int .i64 st.at_]) (uR0.mk q2)) e6) fun v7 c8 hp9 h10 k11 r12=>?_;obtain ⟨rfl,h13⟩:=h10;obtain ⟨v14,rfl,q15⟩:=uR0.inv h13;refine k_mov rfl (gL fun σ16 e17=>?_);have f18 : σ16 0 = .v (.c (.r (.ptr PB 0 0))):=(congrFun e17 0).trans rfl;have f19 : σ16 1 = .v (.c ((I vx1))):=(congrFun e17 1).trans rfl;have f20 : σ16 9 = V (.bool y5.2):=(congrFun e17 9).trans rfl;refine k_mid (fun σ' hp' _=>hp9 = hp' ∧ σ' 13 = V (.bool ((y5.2 || (((List.length x1 : Int)) == ((0 : Int)))))) ∧ Keep [] 10 13 σ16 σ') ?_ ?_
 ·rcases bt y5.2 with g21 | g21
  ·refine k_no (f20.trans (cgB g21)) rfl ?_
   refine k_no (f20.trans (cgB g21)) rfl (k_no (f20.trans (cgB g21)) rfl (k_pickT (f20.trans (cgB g21)) rfl ?_));exact ⟨rfl,cgB (by rw [g21]; rfl),(by repeat (first | exact (Keep.refl _ _ _ _) | refine Keep.upd ?_ rfl _))⟩
  ·refine k_yes (f20.trans (cgB g21)) ?_
   refine k_mov f19 (k_yes (f20.trans (cgB g21)) (k_len rfl (sv.any [] _ hx1) (k_yes (f20.trans (cgB g21)) (k_bin rfl rfl rfl (k_pickF (f20.trans (cgB g21)) rfl ?_)))));exact ⟨rfl,cgB (by rw [g21]; rfl),(by repeat (first | exact (Keep.refl _ _ _ _) | refine Keep.upd ?_ rfl _))⟩
 rintro σ22 _ _ ⟨rfl,f24,k23⟩;have f25:=(k23 0 rfl).trans f18;have f26:=(k23 1 rfl).trans f19;refine k_mov f24 (gL fun σ27 e28=>?_);have f29:=(congrFun e28 0).trans f25;have f30:=(congrFun e28 1).trans f26;have f31 : σ27 14 = V (.bool ((y5.2 || (((List.length x1 : Int)) == ((0 : Int)))))):=(congrFun e28 14).trans rfl;obtain ⟨y36,e37,h⟩:=obind h;refine k_mid (fun σ' hp' _=>hp9 = hp' ∧ σ' 17 = V (.bool y36) ∧ Keep [] 15 17 σ27 σ') ?_ ?_
 ·rcases bt ((y5.2 || (((List.length x1 : Int)) == ((0 : Int))))) with g32 | g32
  ·have h:=ctrue e37 g32
   refine k_no (f31.trans (cgB g32)) rfl (k_no (f31.trans (cgB g32)) rfl (k_pickT (f31.trans (cgB g32)) rfl ?_));exact ⟨rfl,cgB (Option.some.inj h),(by repeat (first | exact (Keep.refl _ _ _ _) | refine Keep.upd ?_ rfl _))⟩
  ·have h:=cfalse e37 g32
   refine k_yes (f31.trans (cgB g32)) (k_mov f30 (k_yes (f31.trans (cgB g32)) ?_));obtain ⟨y33,e34,h⟩:=obind h;refine k_call (.cons rfl rfl (.cons rfl (lend_clo .nil) .nil)) (s83 (sv_retag hx1) (show CK141 L 84 [] (fun a0=>uF84 a0) from fun a0 b0 q0 r h=>s84 q0 h) e34) (.inl rfl) ?_;rintro _ rfl;refine k_pickF (f31.trans (cgB g32)) rfl ?_;exact ⟨rfl,cgB (Option.some.inj h),(by repeat (first | exact (Keep.refl _ _ _ _) | refine Keep.upd ?_ rfl _))⟩
 rintro σ38 _ _ ⟨rfl,f40,k39⟩;have f41:=(k39 0 rfl).trans f29;have f42:=(k39 1 rfl).trans f30;refine k_nil (wpE_cond (p:=y36) f40 (fun g43=>?_) (fun g43=>?_))
 ·have h:=ctrue h g43
  refine e_reg (k_mov f41 (k_bslI (len:=11) (z:=IV.str []) (vs:=[IV.str [],IV.str [43],IV.str [43,49,50,51],IV.str [43,48,49,50,51],IV.str [52,57,51,48,49],IV.str [43,52,57,51,48,49,50,51,52,53,54,55,56,57,48,49,50,51],IV.str [43,55,49,50,51],IV.str [43,52,57,49,49],IV.str [43,52,57,51,48],IV.str [43,52,57,51,48,49,50,51,52,53,54,55,56],IV.str [43,49,50,48,57]]) (.cons rfl (.cons rfl (.cons rfl (.cons rfl (.cons rfl (.cons rfl (.cons rfl (.cons rfl (.cons rfl (.cons rfl (.cons rfl .nil))))))))))) (by decide) rfl ?_))
  have o44 : sv Rep.str true (.lit 0 [IV.str [],IV.str [43],IV.str [43,49,50,51],IV.str [43,48,49,50,51],IV.str [52,57,51,48,49],IV.str [43,52,57,51,48,49,50,51,52,53,54,55,56,57,48,49,50,51],IV.str [43,55,49,50,51],IV.str [43,52,57,49,49],IV.str [43,52,57,51,48],IV.str [43,52,57,51,48,49,50,51,52,53,54,55,56],IV.str [43,49,50,48,57]] 11) ([([] : List UInt8),([43] : List UInt8),([43,49,50,51] : List UInt8),([43,48,49,50,51] : List UInt8),([52,57,51,48,49] : List UInt8),([43,52,57,51,48,49,50,51,52,53,54,55,56,57,48,49,50,51] : List UInt8),([43,55,49,50,51] : List UInt8),([43,52,57,49,49] : List UInt8),([43,52,57,51,48] : List UInt8),([43,52,57,51,48,49,50,51,52,53,54,55,56] : List UInt8),([43,49,50,48,57] : List UInt8)] : List (List UInt8)):=sv_lit true (⟨[IV.str []],_,rfl,rfl,⟨[IV.str [43]],_,rfl,rfl,⟨[IV.str [43,49,50,51]],_,rfl,rfl,⟨[IV.str [43,48,49,50,51]],_,rfl,rfl,⟨[IV.str [52,57,51,48,49]],_,rfl,rfl,⟨[IV.str [43,52,57,51,48,49,50,51,52,53,54,55,56,57,48,49,50,51]],_,rfl,rfl,⟨[IV.str [43,55,49,50,51]],_,rfl,rfl,⟨[IV.str [43,52,57,49,49]],_,rfl,rfl,⟨[IV.str [43,52,57,51,48]],_,rfl,rfl,⟨[IV.str [43,52,57,51,48,49,50,51,52,53,54,55,56]],_,rfl,rfl,⟨[IV.str [43,49,50,48,57]],_,rfl,rfl,rfl⟩⟩⟩⟩⟩⟩⟩⟩⟩⟩⟩) rfl
  obtain ⟨y45,e46,h⟩:=obind h;refine k_meth (cells:=[v14,IV.int .i64 y5.1.at_]) rfl k11 (.cons rfl rfl .nil) rfl (s51  (uR0.retag (f:=false) (c:=[v14,IV.int .i64 y5.1.at_]) (uR0.mk q15)) (sv_retag o44) e46) fun v47 c48 hp49 h50 k51 r52=>?_;obtain ⟨rfl,h53⟩:=h50;obtain ⟨v54,rfl,q55⟩:=uR0.inv h53;refine k_mov rfl (k_nil (wpE_ret ?_));cases h
  exact e_retM (ct:=0) (cells':=[v54,IV.int .i64 y45.1.at_]) k51 (fun b g=>(.cons (backC_inl fun q=>nomatch q) (.cons (backC_inl fun q=>nomatch q) .nil))) (fun b g=>(.tmp rfl (back_sc rfl) .nil)) ⟨rfl,(uR0.mk q55)⟩
 ·have h:=cfalse h g43
  refine wpE_skip (e_reg (k_mov f42 (k_mov f41 (k_mov f42 (k_len rfl (sv.any [] _ hx1) ?_)))));obtain ⟨y56,e57,h⟩:=obind h;refine k_meth (cells:=[v14,IV.int .i64 y5.1.at_]) rfl k11 (.cons rfl rfl .nil) rfl (s63  (uR0.retag (f:=false) (c:=[v14,IV.int .i64 y5.1.at_]) (uR0.mk q15)) e57) fun v58 c59 hp60 h61 k62 r63=>?_;obtain ⟨rfl,h64⟩:=h61;obtain ⟨v65,rfl,q66⟩:=uR0.inv h64;obtain ⟨y67,e68,h⟩:=obind h;refine k_iadrL rfl (sv.any [] _ hx1) rfl e68 rfl fun p69 c70 q71 h72=>?_;obtain ⟨v73,rfl,q74⟩:=uR1.inv h72;refine k_loadL rfl q71 rfl (k_alloc fun g75 hp76 k77 r78=>?_);have k79:=(r78 PB (by decide)).trans k62;refine k_storeB rfl rfl k77 rfl fun hp80 k81 r82=>?_;have k83:=(r82 PB (by decide)).trans k79;refine k_nil (wpE_seq (wp_ghost (k_clr (k_nil (e_lastT (by kernel_rfl) (by kernel_rfl) (t_r (S:=[5]) (dep_fadr rfl (List.mem_singleton.2 rfl)) (k_fadrB (o:=3) rfl k81 (k_nil (t_r (S:=[5]) (dep_load rfl (List.mem_singleton.2 rfl)) ?_)))))))));refine k_loadB rfl k81 rfl (k_nil (t_n (k_mov f41 (k_nil (t_r (S:=[5]) (dep_fadr rfl (List.mem_singleton.2 rfl)) (k_fadrB (o:=3) rfl k81 (k_nil (t_r (S:=[5]) (dep_load rfl (List.mem_singleton.2 rfl)) (k_loadB rfl k81 rfl ?_)))))))));refine k_nil (t_r (S:=[]) (dep_len rfl (sa.lies (hp:=hp80) (sv.any [] _ q74))) (k_len rfl (sv.any [] _ q74) (k_nil ?_)));obtain ⟨y84,e85,h⟩:=obind h
  refine t_t (k_meth (cells:=[v65,IV.int .i64 y56.1.at_]) rfl k83 (.cons rfl rfl .nil) rfl (s63  (uR0.retag (f:=false) (c:=[v65,IV.int .i64 y56.1.at_]) (uR0.mk q66)) e85) fun v86 c87 hp88 h89 k90 r91=>?_);obtain ⟨rfl,h92⟩:=h89;obtain ⟨v93,rfl,q94⟩:=uR0.inv h92;have k95:=(r91 5 (by decide)).trans k81;refine k_nil ⟨r91,?_⟩;obtain ⟨y96,e97,h⟩:=obind h;refine t_r (S:=[]) (dep_iadr rfl (sa.lies (hp:=hp88) (sv.any [] _ q74))) (k_iadrL rfl (sv.any [] _ q74) rfl e97 rfl fun p98 c99 q100 h101=>?_);obtain ⟨_,rfl⟩:=uR2.inv h101;refine k_nil (t_r (S:=[]) (dep_load rfl (ep.lies q100)) (k_loadL rfl q100 rfl (k_nil (t_n (k_gal (nlt rfl) rfl (k_nil (t_n (k_gst [IV.str y96.Prefix,IV.int .i64 y96.Low,IV.int .i64 y96.High] rfl rfl rfl (k_nil ?_)))))))));refine t_nil (e_regT (by kernel_rfl) (by kernel_rfl) (t_r (S:=[5]) (dep_fadr rfl (List.mem_singleton.2 rfl)) (k_fadrB (o:=0) rfl k95 (k_nil (t_r (S:=[5]) (dep_load rfl (List.mem_singleton.2 rfl)) (k_loadB rfl k95 rfl (k_nil ?_)))))));obtain ⟨y102,e103,h⟩:=obind h;refine t_n (k_sadd rfl rfl e103 (k_nil (t_r (S:=[]) (dep_fadr rfl (ep.lies (ep_lp (hp:=hp88) (G:=tabs) 0 [IV.str y96.Prefix,IV.int .i64 y96.Low,IV.int .i64 y96.High]))) (k_fadrL (o:=0) rfl (ep_lp 0 [IV.str y96.Prefix,IV.int .i64 y96.Low,IV.int .i64 y96.High]) (nlt rfl) fun p104 q105=>?_))))
  refine k_nil (t_r (S:=[]) (dep_load rfl (ep.lies q105)) (k_loadL rfl q105 rfl (k_nil ?_)));obtain ⟨y106,e107,h⟩:=obind h;refine t_n (k_sadd rfl rfl e107 (k_nil (t_n (k_mov f41 (k_nil (t_n (k_mov f41 (k_nil (t_r (S:=[]) (dep_fadr rfl (ep.lies (ep_lp (hp:=hp88) (G:=tabs) 0 [IV.str y96.Prefix,IV.int .i64 y96.Low,IV.int .i64 y96.High]))) ?_)))))))));refine k_fadrL (o:=1) rfl (ep_lp 0 [IV.str y96.Prefix,IV.int .i64 y96.Low,IV.int .i64 y96.High]) (nlt rfl) fun p108 q109=>?_;refine k_nil (t_r (S:=[]) (dep_load rfl (ep.lies q109)) (k_loadL rfl q109 rfl (k_nil (t_n (k_mn2 rfl rfl (k_nil (t_r (S:=[]) (dep_fadr rfl (ep.lies (ep_lp (hp:=hp88) (G:=tabs) 0 [IV.str y96.Prefix,IV.int .i64 y96.Low,IV.int .i64 y96.High]))) (k_fadrL (o:=2) rfl (ep_lp 0 [IV.str y96.Prefix,IV.int .i64 y96.Low,IV.int .i64 y96.High]) (nlt rfl) fun p110 q111=>?_))))))));refine k_nil (t_r (S:=[]) (dep_load rfl (ep.lies q111)) (k_loadL rfl q111 rfl (k_nil (t_n (k_mn2 rfl rfl (k_nil ?_))))));obtain ⟨y112,e113,h⟩:=obind h;refine t_t (k_meth (cells:=[v93,IV.int .i64 y84.1.at_]) rfl k90 (.cons rfl rfl (.cons rfl rfl .nil)) rfl (s61  (uR0.retag (f:=false) (c:=[v93,IV.int .i64 y84.1.at_]) (uR0.mk q94)) e113) fun v114 c115 hp116 h117 k118 r119=>?_);obtain ⟨rfl,h120⟩:=h117;obtain ⟨v121,rfl,q122⟩:=uR0.inv h120;refine k_nil ⟨r119,?_⟩
  refine t_r (S:=[]) (dep_fadr rfl (ep.lies (ep_lp (hp:=hp116) (G:=tabs) 0 [IV.str y96.Prefix,IV.int .i64 y96.Low,IV.int .i64 y96.High]))) (k_fadrL (o:=0) rfl (ep_lp 0 [IV.str y96.Prefix,IV.int .i64 y96.Low,IV.int .i64 y96.High]) (nlt rfl) fun p123 q124=>?_);refine k_nil (t_r (S:=[]) (dep_load rfl (ep.lies q124)) (k_loadL rfl q124 rfl (k_nil (t_n (k_lenS rfl (k_nil (t_n (k_bin rfl rfl rfl (k_nil ?_)))))))));refine t_n (k_mov f41 (k_nil (t_r (S:=[]) (dep_bslI (vs:=[IV.int .i64 ((0 : Int)),IV.int .i64 ((0 : Int)),IV.int .i64 ((0 : Int)),IV.int .i64 ((0 : Int)),IV.int .i64 ((0 : Int)),IV.int .i64 ((1 : Int)),IV.int .i64 (((-1) : Int))]) (.cons rfl (.cons rfl (.cons rfl (.cons rfl (.cons rfl (.cons rfl (.cons rfl .nil))))))) rfl) (k_bslI (len:=7) (z:=IV.int .i64 ((0 : Int))) (vs:=[IV.int .i64 ((0 : Int)),IV.int .i64 ((0 : Int)),IV.int .i64 ((0 : Int)),IV.int .i64 ((0 : Int)),IV.int .i64 ((0 : Int)),IV.int .i64 ((1 : Int)),IV.int .i64 (((-1) : Int))]) (.cons rfl (.cons rfl (.cons rfl (.cons rfl (.cons rfl (.cons rfl (.cons rfl .nil))))))) (by decide) rfl ?_))))
  have o125 : sv (Rep.int .i64) true (.lit 0 [IV.int .i64 ((0 : Int)),IV.int .i64 ((0 : Int)),IV.int .i64 ((0 : Int)),IV.int .i64 ((0 : Int)),IV.int .i64 ((0 : Int)),IV.int .i64 ((1 : Int)),IV.int .i64 (((-1) : Int))] 7) ([(0 : Int),(0 : Int),(0 : Int),(0 : Int),(0 : Int),(1 : Int),((-1) : Int)] : List Int):=sv_lit true (⟨[IV.int .i64 ((0 : Int))],_,rfl,rfl,⟨[IV.int .i64 ((0 : Int))],_,rfl,rfl,⟨[IV.int .i64 ((0 : Int))],_,rfl,rfl,⟨[IV.int .i64 ((0 : Int))],_,rfl,rfl,⟨[IV.int .i64 ((0 : Int))],_,rfl,rfl,⟨[IV.int .i64 ((1 : Int))],_,rfl,rfl,⟨[IV.int .i64 (((-1) : Int))],_,rfl,rfl,rfl⟩⟩⟩⟩⟩⟩⟩) rfl;refine k_nil ?_;obtain ⟨y126,e127,h⟩:=obind h;refine t_t (k_meth (cells:=[v121,IV.int .i64 y112.1.at_]) rfl k118 (.cons rfl rfl .nil) rfl (s58  (uR0.retag (f:=false) (c:=[v121,IV.int .i64 y112.1.at_]) (uR0.mk q122)) (sv_retag o125) e127) fun v128 c129 hp130 h131 k132 r133=>?_);obtain ⟨rfl,h134⟩:=h131;obtain ⟨v135,rfl,q136⟩:=uR0.inv h134;refine k_nil ⟨r133,?_⟩;refine t_n (k_bin rfl rfl rfl (k_nil (t_n (k_mx2 rfl rfl (k_nil ?_)))));obtain ⟨y137,e138,h⟩:=obind h;refine t_t (k_meth (cells:=[v135,IV.int .i64 y126.1.at_]) rfl k132 (.cons rfl rfl .nil) rfl (s85  (uR0.retag (f:=false) (c:=[v135,IV.int .i64 y126.1.at_]) (uR0.mk q136)) e138) fun v139 c140 hp141 h142 k143 r144=>?_);obtain ⟨rfl,h145⟩:=h142
  obtain ⟨v146,rfl,q147⟩:=uR0.inv h145;refine k_nil ⟨r144,?_⟩;obtain ⟨y148,e149,h⟩:=obind h;refine t_n (k_sadd rfl rfl e149 (k_nil (t_n (k_mov rfl (k_nil (t_nil (wpE_ret ?_)))))));cases h
  exact e_retM (ct:=0) (cells':=[v146,IV.int .i64 y137.1.at_]) k143 (fun b g=>(.cons (backC_inl fun q=>nomatch q) (.cons (backC_inl fun q=>nomatch q) .nil))) (fun b g=>(.tmp rfl (back_sc rfl) .nil)) ⟨rfl,(uR0.mk q147)⟩
theorem s103 {x0 : Int} {x1 : Int} {x2 : Int} {r : Bool}  (h : uF103 x0 x1 x2 = some r) : pc L 103 [.c (I (.int .i64 x0)),.c (I (.int .i64 x1)),.c (I (.int .i64 x2))] true (P103 r):=by
 refine fn_pure (fn:=ir103) rfl (nlt rfl) fun lent hl=>?_;unfold uF103 at h;refine e_reg (k_mov rfl (k_nil (e_reg (k_mov rfl (k_mov rfl (k_bin rfl rfl rfl (k_mov rfl (gL fun σ1 e2=>?_))))))));have f3 : σ1 0 = V (.int .i64 x0):=(congrFun e2 0).trans rfl;have f4 : σ1 2 = V (.int .i64 x2):=(congrFun e2 2).trans rfl;have f5 : σ1 10 = V (.bool ((decide (x1 ≤ x0)))):=(congrFun e2 10).trans rfl;refine k_mid (fun σ' hp' _=>[] = hp' ∧ σ' 14 = V (.bool (((decide (x1 ≤ x0)) && (decide (x0 ≤ x2))))) ∧ Keep [] 11 14 σ1 σ') ?_ ?_
 ·rcases bt ((decide (x1 ≤ x0))) with g6 | g6
  ·refine k_yes (f5.trans (cgB g6)) ?_
   refine k_mov f3 (k_yes (f5.trans (cgB g6)) (k_mov f4 (k_yes (f5.trans (cgB g6)) (k_bin rfl rfl rfl (k_pickT (f5.trans (cgB g6)) rfl ?_)))));exact ⟨rfl,cgB (by rw [g6]; rfl),(by repeat (first | exact (Keep.refl _ _ _ _) | refine Keep.upd ?_ rfl _))⟩
  ·refine k_no (f5.trans (cgB g6)) rfl ?_
   refine k_no (f5.trans (cgB g6)) rfl (k_no (f5.trans (cgB g6)) rfl (k_pickF (f5.trans (cgB g6)) rfl ?_));exact ⟨rfl,cgB (by rw [g6]; rfl),(by repeat (first | exact (Keep.refl _ _ _ _) | refine Keep.upd ?_ rfl _))⟩
 rintro σ7 _ _ ⟨rfl,f9,k8⟩;refine k_mov f9 ?_;obtain ⟨u10,e11,h⟩:=bnd_e h;refine k_nil (wpE_ret ?_);cases h
 exact e_ret (ct:=0) (.tmp (cgB e11) (back_sc rfl) .nil) rfl
theorem s160 {x0 x1 : List UInt8} {r : List UInt8} (h : uF160 x0 x1 = some r) : pc L 160 [.c (I (.str x0)),.c (I (.str x1))] true (P160 r):=by
 unfold uF160 at h;split at h
 ·rename_i hk
  cases h
  intro lent _;refine ⟨[.c (I (.str _))],?_,rfl⟩;unfold pureCall;rw [show L 160 _ [] = some ([.c (I (.str (Lib.trimS x0 x1)))],[]) from lim_x rfl _ _ (by show (if trimOk x0 x1 then _ else _) = _; rw [if_pos hk])];cases lent <;> rfl
 ·simp at h
theorem s94 {x0 : List UInt8} {x1 : Int} {x2 : Int} {r : Bool}  (h : uF94 x0 x1 x2 = some r) : pc L 94 [.c (I (.str x0)),.c (I (.int .i64 x1)),.c (I (.int .i64 x2))] true (P94 r):=by
 refine fn_pure (fn:=ir94) rfl (nlt rfl) fun lent hl=>?_;unfold uF94 at h;refine e_reg (k_mov rfl (k_nil (e_reg (k_mov rfl (k_lenS rfl (k_mov rfl (k_mov rfl ?_)))))));obtain ⟨y1,e2,h⟩:=obind h;refine k_call (.cons rfl rfl (.cons rfl rfl (.cons rfl rfl .nil))) (s103  e2) (.inl rfl) ?_;rintro _ rfl;refine k_mov rfl (gL fun σ4 e5=>?_);have f6 : σ4 0 = V (.str x0):=(congrFun e5 0).trans rfl;have f7 : σ4 12 = V (.bool y1):=(congrFun e5 12).trans rfl;obtain ⟨y12,e13,h⟩:=obind h;refine k_mid (fun σ' hp' _=>[] = hp' ∧ σ' 16 = V (.bool y12) ∧ Keep [] 13 16 σ4 σ') ?_ ?_
 ·rcases bt y1 with g8 | g8
  ·have h:=ctrue e13 g8
   refine k_yes (f7.trans (cgB g8)) (k_mov f6 (k_yes (f7.trans (cgB g8)) ?_));obtain ⟨y9,e10,h⟩:=obind h;refine k_call (.cons rfl rfl (.cons rfl rfl .nil)) (s160  e10) (.inl rfl) ?_;rintro _ rfl;refine k_yes (f7.trans (cgB g8)) (k_bin rfl rfl rfl (k_pickT (f7.trans (cgB g8)) rfl ?_));exact ⟨rfl,cgB (Option.some.inj h),(by repeat (first | exact (Keep.refl _ _ _ _) | refine Keep.upd ?_ rfl _))⟩
  ·have h:=cfalse e13 g8
   refine k_no (f7.trans (cgB g8)) rfl (k_no (f7.trans (cgB g8)) rfl (k_no (f7.trans (cgB g8)) rfl (k_pickF (f7.trans (cgB g8)) rfl ?_)));exact ⟨rfl,cgB (Option.some.inj h),(by repeat (first | exact (Keep.refl _ _ _ _) | refine Keep.upd ?_ rfl _))⟩
 rintro σ14 _ _ ⟨rfl,f16,k15⟩;refine k_mov f16 (k_nil (wpE_ret ?_));cases h
 exact e_ret (ct:=0) (.tmp rfl (back_sc rfl) .nil) rfl
theorem s161 {x0 : List UInt8} {x1 : List UInt8} {r : Bool}  (h : uF161 x0 x1 = some r) : pc L 161 [.c (I (.str x0)),.c (I (.str x1))] true (P161 r):=by
 refine fn_pure (fn:=ir161) rfl (nlt rfl) fun lent hl=>?_;unfold uF161 at h;refine e_reg (k_mov rfl (k_nil (e_reg (k_mov rfl (k_lenS rfl (k_mov rfl (k_lenS rfl (k_bin rfl rfl rfl (k_mov rfl ?_)))))))));refine gL fun σ1 e2=>?_;have f3 : σ1 0 = V (.str x0):=(congrFun e2 0).trans rfl;have f4 : σ1 1 = V (.str x1):=(congrFun e2 1).trans rfl;have f5 : σ1 10 = V (.bool ((decide (((List.length x0 : Int)) ≥ ((List.length x1 : Int)))))):=(congrFun e2 10).trans rfl;obtain ⟨y9,e10,h⟩:=obind h;refine k_mid (fun σ' hp' _=>[] = hp' ∧ σ' 17 = V (.bool y9) ∧ Keep [] 11 17 σ1 σ') ?_ ?_
 ·rcases bt ((decide (((List.length x0 : Int)) ≥ ((List.length x1 : Int))))) with g6 | g6
  ·have h:=ctrue e10 g6
   refine k_yes (f5.trans (cgB g6)) (k_mov f3 (k_yes (f5.trans (cgB g6)) (k_mov f4 (k_yes (f5.trans (cgB g6)) (k_lenS rfl (k_yes (f5.trans (cgB g6)) ?_))))));obtain ⟨y7,e8,h⟩:=obind h;refine k_slcT rfl .none (.some rfl) e8 (k_yes (f5.trans (cgB g6)) (k_mov f4 (k_yes (f5.trans (cgB g6)) (k_bin rfl rfl rfl (k_pickT (f5.trans (cgB g6)) rfl ?_)))));exact ⟨rfl,cgB (Option.some.inj h),(by repeat (first | exact (Keep.refl _ _ _ _) | refine Keep.upd ?_ rfl _))⟩
  ·have h:=cfalse e10 g6
   refine k_no (f5.trans (cgB g6)) rfl (k_no (f5.trans (cgB g6)) rfl (k_no (f5.trans (cgB g6)) rfl (k_no (f5.trans (cgB g6)) rfl (k_no (f5.trans (cgB g6)) rfl (k_no (f5.trans (cgB g6)) rfl (k_pickF (f5.trans (cgB g6)) rfl ?_))))));exact ⟨rfl,cgB (Option.some.inj h),(by repeat (first | exact (Keep.refl _ _ _ _) | refine Keep.upd ?_ rfl _))⟩
 rintro σ11 _ _ ⟨rfl,f13,k12⟩;refine k_mov f13 (k_nil (wpE_ret ?_));cases h
 exact e_ret (ct:=0) (.tmp rfl (back_sc rfl) .nil) rfl
theorem s96 {x0 : List UInt8} {x1 : List UInt8} {r : Bool}  (h : uF96 x0 x1 = some r) : pc L 96 [.c (I (.str x0)),.c (I (.str x1))] true (P96 r):=by
 refine fn_pure (fn:=ir96) rfl (nlt rfl) fun lent hl=>?_;unfold uF96 at h;refine e_reg (k_mov rfl (k_nil (e_reg (k_mov rfl (k_mov rfl ?_)))));obtain ⟨y1,e2,h⟩:=obind h;refine k_call (.cons rfl rfl (.cons rfl rfl .nil)) (s161  e2) (.inl rfl) ?_;rintro _ rfl;refine k_mov rfl (k_nil (wpE_ret ?_));cases h
 exact e_ret (ct:=0) (.tmp rfl (back_sc rfl) .nil) rfl
theorem s95 {x0 : uT1} {cx0 : List IV} {x1 : uT1} {cx1 : List IV} {r : Bool} (hx0 : uR1.rp false cx0 x0) (hx1 : uR1.rp false cx1 x1) (h : uF95 x0 x1 = some r) : pc L 95 [.agg (cx0.map I),.c (I (.lp 1 cx1))] true (P95 r):=by
 refine fn_pure (fn:=ir95) rfl (nlt rfl) fun lent hl=>?_;unfold uF95 at h;obtain ⟨v1,rfl,q2⟩:=uR1.inv hx0;obtain ⟨v3,rfl,q4⟩:=uR1.inv hx1;refine e_reg (k_box rfl rfl fun g5 hp6 k7 r8=>?_);refine k_mov rfl (k_nil (e_reg (k_fadrL (o:=0) rfl (ep_lp 1 [IV.str x1.Code,IV.str x1.Abroad,IV.str x1.Trunk,v3]) (nlt rfl) fun p9 q10=>?_)));refine k_loadL rfl q10 rfl (k_fadrB (o:=0) rfl k7 (k_loadB rfl k7 rfl ?_));obtain ⟨y11,e12,h⟩:=obind h;refine k_call (.cons rfl rfl (.cons rfl rfl .nil)) (s96  e12) (.inl rfl) ?_;rintro _ rfl;refine k_mov rfl (k_nil (wpE_ret ?_));cases h
 exact e_ret (ct:=0) (.tmp rfl (back_sc rfl) .nil) rfl
theorem s33 {x0 : List uT1} {vx0 : IV} {r : Int} (hx0 : sv uR1 false vx0 x0) (h : uF33b x0 = some r) : pc L 33 [.c (I vx0)] true (P33 r):=by
 refine fn_pure (fn:=ir33) rfl (nlt rfl) fun lent hl=>?_;unfold uF33b at h;refine e_reg (k_mov rfl (k_nil (wpE_seq (e_reg (k_mov rfl (k_len rfl (sv.any [] _ hx0) (k_bin rfl rfl rfl (k_nil (wpE_cond (p:=(decide (((List.length x0 : Int)) > ((100 : Int))))) rfl (fun g1=>?_) (fun g1=>?_))))))))))
 ·have h:=ctrue h g1
  refine e_reg (k_mov rfl (k_nil (wpE_ret ?_)));cases h
  exact e_ret (ct:=0) (.tmp rfl (back_sc rfl) .nil) rfl
 ·have h:=cfalse h g1
  refine wpE_skip (wpE_seq (e_reg (k_mov rfl (k_len rfl (sv.any [] _ hx0) (k_mov rfl (k_nil (wpE_block (gE fun σ2 e3=>?_))))))));have f4 : σ2 0 = .v (.c ((I vx0))):=(congrFun e3 0).trans rfl;have f5 : σ2 11 = .v (.c ((I vx0))):=(congrFun e3 11).trans rfl;have f6 : σ2 12 = V (.int .i64 ((List.length x0 : Int))):=(congrFun e3 12).trans rfl;have f7 : σ2 13 = V (.int .i64 ((0 : Int))):=(congrFun e3 13).trans rfl;obtain ⟨e8,h9,h⟩:=lret_e h;refine wpE_mono (e_loop h9 (I:=fun s σ' hp' _=>σ' 13 = V (.int .i64 s) ∧ Keep [2,3,4,5,6,7] 13 161 σ2 σ' ∧ Fr [4,6] [] hp') (X:=fun e ex σ' hp' _=>match e with | .inl e=>ex = .exit 0 ∧ Keep [2,3,4,5,6,7] 13 161 σ2 σ' ∧ Fr [4,6] [] hp' | .inr r=>ex = .ret ∧ ∀ ct,atEnd 162 [Res.tmp 2] (fin lent (P33 r)) .ret σ' hp' ct) ⟨f7,Keep.refl _ _ _ _,Fr.refl _ _⟩ ?_) ?_
  ·clear h
   rintro w10 o σ12 hp13 _ h ⟨f11,k14,r15⟩;have h : uF33a x0 w10 = some o:=h; unfold uF33a at h;have f16:=(k14 0 rfl).trans f4;have f17:=(k14 11 rfl).trans f5;have f18:=(k14 12 rfl).trans f6;refine e_reg (k_bin f11 f18 rfl (k_nil (wpE_seq (wpE_cond (p:=(decide (w10 < ((List.length x0 : Int))))) rfl (fun g19=>?_) (fun g19=>?_)))))
   ·have h:=ctrue h g19
    refine wpE_skip (wpE_seq (wpE_block (e_reg (k_mov f11 ?_))));obtain ⟨y20,e21,h⟩:=obind h;refine k_iadrL f17 (sv.any [] _ hx0) f11 e21 rfl fun p22 c23 q24 h25=>?_;obtain ⟨v26,rfl,q27⟩:=uR1.inv h25;refine k_loadL rfl q24 rfl (k_alloc fun g28 hp29 k30 r31=>?_);have r32 : Fr [4,6] [] hp29:=Fr.ext r15 r31 rfl;refine k_mov rfl (k_storeB rfl rfl k30 rfl fun hp33 k34 r35=>?_);have r36 : Fr [4,6] [] hp33:=Fr.ext r32 r35 rfl;refine k_nil (wpE_seq (wpE_block (e_reg (k_fadrB (o:=0) rfl k34 (k_loadB rfl k34 rfl ?_)))));obtain ⟨y37,e38,h⟩:=obind h;refine k_call (.cons rfl rfl (.cons rfl rfl (.cons rfl rfl .nil))) (s94  e38) (.inl rfl) ?_;rintro _ rfl;refine k_not rfl (k_mov rfl (gL fun σ40 e41=>?_));have k42 : Keep [2,3,4,5,6,7] 13 161 σ2 σ40:=by rw [e41]; repeat (first | exact k14 | refine Keep.upd ?_ rfl _)
    have f43:=(congrFun e41 0).trans f16;have f46:=(congrFun e41 13).trans f11;have f47 : σ40 4 = .v (.c (.r (.ptr 4 g28 0))):=(congrFun e41 4).trans rfl;have f48 : σ40 3 = V (.int .i64 w10):=(congrFun e41 3).trans rfl;have f49 : σ40 23 = V (.bool (!y37)):=(congrFun e41 23).trans rfl;obtain ⟨y53,e54,h⟩:=obind h;refine k_mid (fun σ' hp' _=>hp33 = hp' ∧ σ' 28 = V (.bool y53) ∧ Keep [] 24 28 σ40 σ') ?_ ?_
    ·rcases bt (!y37) with g50 | g50
     ·have h:=ctrue e54 g50
      refine k_no (f49.trans (cgB g50)) rfl (k_no (f49.trans (cgB g50)) rfl (k_no (f49.trans (cgB g50)) rfl (k_no (f49.trans (cgB g50)) rfl (k_pickT (f49.trans (cgB g50)) rfl ?_))));exact ⟨rfl,cgB (Option.some.inj h),(by repeat (first | exact (Keep.refl _ _ _ _) | refine Keep.upd ?_ rfl _))⟩
     ·have h:=cfalse e54 g50
      refine k_yes (f49.trans (cgB g50)) (k_fadrB (o:=0) f47 k34 (k_yes (f49.trans (cgB g50)) (k_loadB rfl k34 rfl (k_yes (f49.trans (cgB g50)) ?_))));obtain ⟨y51,e52,h⟩:=obind h;refine k_idxS rfl rfl e52 (k_yes (f49.trans (cgB g50)) (k_bin rfl rfl rfl (k_pickF (f49.trans (cgB g50)) rfl ?_)));exact ⟨rfl,cgB (Option.some.inj h),(by repeat (first | exact (Keep.refl _ _ _ _) | refine Keep.upd ?_ rfl _))⟩
    rintro σ55 _ _ ⟨rfl,f57,k56⟩;have f58:=(k56 0 rfl).trans f43;have f61:=(k56 13 rfl).trans f46;have f62:=(k56 4 rfl).trans f47;have f63:=(k56 3 rfl).trans f48;have k64 : Keep [2,3,4,5,6,7] 13 161 σ2 σ55:=Keep.trans k42 (Keep.sub k56 rfl);refine k_mov f57 (k_nil (wpE_cond (p:=y53) rfl (fun g65=>?_) (fun g65=>?_)))
    ·have h:=ctrue h g65
     refine e_reg (k_mov rfl (k_nil (wpE_ret ?_)));cases h
     exact ⟨by decide,rfl,fun _=>e_ret (ct:=0) (.tmp rfl (back_sc rfl) .nil) rfl⟩
    ·have h:=cfalse h g65
     refine e_regD (by kernel_rfl) (by kernel_rfl) (k_mov f63 (k_bin rfl rfl rfl (k_mov rfl (gL fun σ66 e67=>?_))));have k68 : Keep [2,3,4,5,6,7] 13 161 σ2 σ66:=by rw [e67]; repeat (first | exact k64 | refine Keep.upd ?_ rfl _)
     have f69:=(congrFun e67 0).trans f58;have f72:=(congrFun e67 13).trans f61;have f73:=(congrFun e67 4).trans f62;have f74:=(congrFun e67 3).trans f63;have f75 : σ66 32 = V (.bool ((decide (w10 > ((0 : Int)))))):=(congrFun e67 32).trans rfl;obtain ⟨y87,e88,h⟩:=obind h;refine k_mid (fun σ' hp' _=>hp33 = hp' ∧ σ' 42 = V (.bool y87) ∧ Keep [] 33 42 σ66 σ') ?_ ?_
     ·rcases bt ((decide (w10 > ((0 : Int))))) with g76 | g76
      ·have h:=ctrue e88 g76
       refine k_yes (f75.trans (cgB g76)) (k_fadrB (o:=0) f73 k34 (k_yes (f75.trans (cgB g76)) (k_loadB rfl k34 rfl (k_yes (f75.trans (cgB g76)) (k_mov f69 (k_yes (f75.trans (cgB g76)) (k_mov f74 (k_yes (f75.trans (cgB g76)) (k_bin rfl rfl rfl ?_)))))))));refine k_yes (f75.trans (cgB g76)) ?_;obtain ⟨y77,e78,h⟩:=obind h;refine k_iadrL rfl (sv.any [] _ hx0) rfl e78 rfl fun p79 c80 q81 h82=>?_;obtain ⟨v83,rfl,q84⟩:=uR1.inv h82;refine k_yes (f75.trans (cgB g76)) (k_fadrL (o:=0) rfl q81 (nlt rfl) fun p85 q86=>?_);refine k_yes (f75.trans (cgB g76)) (k_loadL rfl q86 rfl (k_yes (f75.trans (cgB g76)) (k_bin rfl rfl rfl (k_pickT (f75.trans (cgB g76)) rfl ?_))));exact ⟨rfl,cgB (Option.some.inj h),(by repeat (first | exact (Keep.refl _ _ _ _) | refine Keep.upd ?_ rfl _))⟩
      ·have h:=cfalse e88 g76
       refine k_no (f75.trans (cgB g76)) rfl (k_no (f75.trans (cgB g76)) rfl (k_no (f75.trans (cgB g76)) rfl (k_no (f75.trans (cgB g76)) rfl (k_no (f75.trans (cgB g76)) rfl (k_no (f75.trans (cgB g76)) rfl (k_no (f75.trans (cgB g76)) rfl (k_no (f75.trans (cgB g76)) rfl (k_no (f75.trans (cgB g76)) rfl (k_pickF (f75.trans (cgB g76)) rfl ?_)))))))));exact ⟨rfl,cgB (Option.some.inj h),(by repeat (first | exact (Keep.refl _ _ _ _) | refine Keep.upd ?_ rfl _))⟩
     rintro σ89 _ _ ⟨rfl,f91,k90⟩;have f92:=(k90 0 rfl).trans f69;have f95:=(k90 13 rfl).trans f72;have f96:=(k90 4 rfl).trans f73;have f97:=(k90 3 rfl).trans f74;have k98 : Keep [2,3,4,5,6,7] 13 161 σ2 σ89:=Keep.trans k68 (Keep.sub k90 rfl);refine k_mov f91 (k_nil (wpE_cond (p:=y87) rfl (fun g99=>?_) (fun g99=>?_)))
     ·have h:=ctrue h g99
      refine e_reg (k_mov rfl (k_nil (wpE_ret ?_)));cases h
      exact ⟨by decide,rfl,fun _=>e_ret (ct:=0) (.tmp rfl (back_sc rfl) .nil) rfl⟩
     ·have h:=cfalse h g99
      refine e_reg (k_mov f92 (k_mov f97 ?_));obtain ⟨y100,e101,h⟩:=obind h;refine k_slcA rfl (sv.any [] _ hx0) .none (.some rfl) e101 rfl fun a102 o103=>?_;refine k_mkfn (f:=95) (.cons f96 rfl .nil) ?_;obtain ⟨v104,q105,q106⟩:=(o103).lend [] rfl;obtain ⟨y107,e108,h⟩:=obind h;refine k_call (.cons rfl q105 (.cons rfl (lend_clo (.ptr (cs:=[IV.str y20.Code,IV.str y20.Abroad,IV.str y20.Trunk,v26]) k34 .nil)) .nil)) (s83 q106 (show CK141 L 95 [(.lp 1 [IV.str y20.Code,IV.str y20.Abroad,IV.str y20.Trunk,(IV.retag 1 v26)])] (fun a0=>uF95 a0 y20) from fun a0 b0 q0 r h=>s95 q0 (cx1:=[IV.str y20.Code,IV.str y20.Abroad,IV.str y20.Trunk,(IV.retag 1 ((IV.retag 1 v26)))]) (uR1.mk (sv_retag (sv_retag q27))) h) e108) (.inl rfl) ?_;rintro _ rfl;refine k_mov rfl (k_nil (wpE_cond (p:=y107) rfl (fun g110=>?_) (fun g110=>?_)))
      ·have h:=ctrue h g110
       refine e_reg (k_mov rfl (k_nil (wpE_ret ?_)));cases h
       exact ⟨by decide,rfl,fun _=>e_ret (ct:=0) (.tmp rfl (back_sc rfl) .nil) rfl⟩
      ·have h:=cfalse h g110
       refine e_reg (k_fadrB (o:=1) f96 k34 (k_loadB rfl k34 rfl ?_));obtain ⟨y111,e112,h⟩:=obind h;refine k_call (.cons rfl rfl (.cons rfl rfl (.cons rfl rfl .nil))) (s94  e112) (.inl rfl) ?_;rintro _ rfl;refine k_not rfl (k_mov rfl (gL fun σ114 e115=>?_));have k116 : Keep [2,3,4,5,6,7] 13 161 σ2 σ114:=by rw [e115]; repeat (first | exact k98 | refine Keep.upd ?_ rfl _)
       have f120:=(congrFun e115 13).trans f95;have f121:=(congrFun e115 4).trans f96;have f122 : σ114 54 = V (.bool (!y111)):=(congrFun e115 54).trans rfl;obtain ⟨y127,e128,h⟩:=obind h;refine k_mid (fun σ' hp' _=>hp33 = hp' ∧ σ' 59 = V (.bool y127) ∧ Keep [] 55 59 σ114 σ') ?_ ?_
       ·rcases bt (!y111) with g123 | g123
        ·have h:=ctrue e128 g123
         refine k_no (f122.trans (cgB g123)) rfl (k_no (f122.trans (cgB g123)) rfl (k_no (f122.trans (cgB g123)) rfl (k_no (f122.trans (cgB g123)) rfl (k_pickT (f122.trans (cgB g123)) rfl ?_))));exact ⟨rfl,cgB (Option.some.inj h),(by repeat (first | exact (Keep.refl _ _ _ _) | refine Keep.upd ?_ rfl _))⟩
        ·have h:=cfalse e128 g123
         refine k_yes (f122.trans (cgB g123)) (k_fadrB (o:=2) f121 k34 (k_yes (f122.trans (cgB g123)) (k_loadB rfl k34 rfl (k_yes (f122.trans (cgB g123)) ?_))));obtain ⟨y124,e125,h⟩:=obind h;refine k_call (.cons rfl rfl (.cons rfl rfl (.cons rfl rfl .nil))) (s94  e125) (.inl rfl) ?_;rintro _ rfl;refine k_yes (f122.trans (cgB g123)) (k_not rfl (k_pickF (f122.trans (cgB g123)) rfl ?_));exact ⟨rfl,cgB (Option.some.inj h),(by repeat (first | exact (Keep.refl _ _ _ _) | refine Keep.upd ?_ rfl _))⟩
       rintro σ129 _ _ ⟨rfl,f131,k130⟩;have f135:=(k130 13 rfl).trans f120;have f136:=(k130 4 rfl).trans f121;have k137 : Keep [2,3,4,5,6,7] 13 161 σ2 σ129:=Keep.trans k116 (Keep.sub k130 rfl);refine k_mov f131 (gL fun σ138 e139=>?_);have k140 : Keep [2,3,4,5,6,7] 13 161 σ2 σ138:=by rw [e139]; repeat (first | exact k137 | refine Keep.upd ?_ rfl _)
       have f144:=(congrFun e139 13).trans f135;have f145:=(congrFun e139 4).trans f136;have f146 : σ138 60 = V (.bool y127):=(congrFun e139 60).trans rfl;obtain ⟨y151,e152,h⟩:=obind h;refine k_mid (fun σ' hp' _=>hp33 = hp' ∧ σ' 66 = V (.bool y151) ∧ Keep [] 61 66 σ138 σ') ?_ ?_
       ·rcases bt y127 with g147 | g147
        ·have h:=ctrue e152 g147
         refine k_no (f146.trans (cgB g147)) rfl (k_no (f146.trans (cgB g147)) rfl (k_no (f146.trans (cgB g147)) rfl (k_no (f146.trans (cgB g147)) rfl (k_no (f146.trans (cgB g147)) rfl (k_pickT (f146.trans (cgB g147)) rfl ?_)))));exact ⟨rfl,cgB (Option.some.inj h),(by repeat (first | exact (Keep.refl _ _ _ _) | refine Keep.upd ?_ rfl _))⟩
        ·have h:=cfalse e152 g147
         refine k_yes (f146.trans (cgB g147)) (k_fadrB (o:=2) f145 k34 (k_yes (f146.trans (cgB g147)) (k_loadB rfl k34 rfl (k_yes (f146.trans (cgB g147)) (k_fadrB (o:=1) f145 k34 (k_yes (f146.trans (cgB g147)) (k_loadB rfl k34 rfl (k_yes (f146.trans (cgB g147)) ?_))))))));obtain ⟨y148,e149,h⟩:=obind h;refine k_call (.cons rfl rfl (.cons rfl rfl .nil)) (s96  e149) (.inl rfl) ?_;rintro _ rfl;refine k_pickF (f146.trans (cgB g147)) rfl ?_;exact ⟨rfl,cgB (Option.some.inj h),(by repeat (first | exact (Keep.refl _ _ _ _) | refine Keep.upd ?_ rfl _))⟩
       rintro σ153 _ _ ⟨rfl,f155,k154⟩;have f159:=(k154 13 rfl).trans f144;have f160:=(k154 4 rfl).trans f145;have k161 : Keep [2,3,4,5,6,7] 13 161 σ2 σ153:=Keep.trans k140 (Keep.sub k154 rfl);refine k_mov f155 (k_nil (wpE_cond (p:=y151) rfl (fun g162=>?_) (fun g162=>?_)))
       ·have h:=ctrue h g162
        refine e_reg (k_mov rfl (k_nil (wpE_ret ?_)));cases h
        exact ⟨by decide,rfl,fun _=>e_ret (ct:=0) (.tmp rfl (back_sc rfl) .nil) rfl⟩
       ·have h:=cfalse h g162
        refine e_reg (k_fadrB (o:=3) f160 k34 (k_loadB rfl k34 rfl (k_len rfl (sv.any [] _ q27) (k_bin rfl rfl rfl (k_mov rfl ?_)))));obtain ⟨u163,e164,h⟩:=bnd_e h;refine k_nil (wpE_cond (p:=u163) (cgB e164) (fun g165=>?_) (fun g165=>?_))
        ·have h:=ctrue h g165
         refine e_reg (k_mov rfl (k_nil (wpE_ret ?_)));cases h
         exact ⟨by decide,rfl,fun _=>e_ret (ct:=0) (.tmp rfl (back_sc rfl) .nil) rfl⟩
        ·have h:=cfalse h g165
         refine wpE_skip (e_reg (k_fadrB (o:=3) f160 k34 (k_loadB rfl k34 rfl (k_len rfl (sv.any [] _ q27) (k_mov rfl (k_nil (wpE_block (gE fun σ166 e167=>?_))))))));have k168 : Keep [2,3,4,5,6,7] 13 161 σ2 σ166:=by rw [e167]; repeat (first | exact k161 | refine Keep.upd ?_ rfl _)
         have f172:=(congrFun e167 13).trans f159;have f173:=(congrFun e167 4).trans f160;have f174 : σ166 73 = .v (.c ((I v26))):=(congrFun e167 73).trans rfl;have f175 : σ166 74 = V (.int .i64 ((List.length y20.Areas : Int))):=(congrFun e167 74).trans rfl;have f176 : σ166 75 = V (.int .i64 ((0 : Int))):=(congrFun e167 75).trans rfl;obtain ⟨e177,h178,h⟩:=lret_e h;refine wpE_mono (e_loop h178 (I:=fun s σ' hp' _=>σ' 75 = V (.int .i64 s) ∧ Keep [2,5,6,7] 75 160 σ166 σ' ∧ Fr [6] hp33 hp') (X:=fun e ex σ' hp' _=>match e with | .inl e=>ex = .exit 3 ∧ Keep [2,5,6,7] 75 160 σ166 σ' ∧ Fr [6] hp33 hp' | .inr r=>ex = .ret ∧ ∀ ct,atEnd 162 [Res.tmp 2] (fin lent (P33 r)) .ret σ' hp' ct) ⟨f176,Keep.refl _ _ _ _,Fr.refl _ _⟩ ?_) ?_
         ·clear h
          rintro w179 o σ181 hp182 _ h ⟨f180,k183,r184⟩;have h : uF33 y20 w179 = some o:=h; unfold uF33 at h;have f189:=(k183 4 rfl).trans f173;have f190:=(k183 73 rfl).trans f174;have f191:=(k183 74 rfl).trans f175;have k194:=(r184 4 (by decide)).trans k34;refine e_reg (k_bin f180 f191 rfl (k_nil (wpE_seq (wpE_cond (p:=(decide (w179 < ((List.length y20.Areas : Int))))) rfl (fun g195=>?_) (fun g195=>?_)))))
          ·have h:=ctrue h g195
           refine wpE_skip (wpE_seq (wpE_block (e_reg (k_mov f180 ?_))));obtain ⟨y196,e197,h⟩:=obind h;refine k_iadrL f190 (sv.any [] _ q27) f180 e197 rfl fun p198 c199 q200 h201=>?_;obtain ⟨_,rfl⟩:=uR2.inv h201;refine k_loadL rfl q200 rfl (k_alloc fun g202 hp203 k204 r205=>?_);have r207 : Fr [6] hp33 hp203:=Fr.ext r184 r205 rfl;have k208:=(r205 4 (by decide)).trans k194;refine k_mov rfl (k_storeB rfl rfl k204 rfl fun hp209 k210 r211=>?_);have r213 : Fr [6] hp33 hp209:=Fr.ext r207 r211 rfl;have k214:=(r211 4 (by decide)).trans k208;refine k_nil (e_reg (k_fadrB (o:=2) f189 k214 (k_loadB rfl k214 rfl (k_fadrB (o:=0) rfl k210 (k_loadB rfl k210 rfl ?_)))));obtain ⟨y215,e216,h⟩:=obind h;refine k_sadd rfl rfl e216 (k_mov rfl (k_nil (wpE_block (e_reg (k_fadrB (o:=0) rfl k210 (k_loadB rfl k210 rfl ?_))))));obtain ⟨y217,e218,h⟩:=obind h;refine k_call (.cons rfl rfl (.cons rfl rfl (.cons rfl rfl .nil))) (s94  e218) (.inl rfl) ?_;rintro _ rfl;refine k_not rfl (k_mov rfl (k_nil (wpE_cond (p:=(!y217)) rfl (fun g220=>?_) (fun g220=>?_))))
           ·have h:=ctrue h g220
            refine e_reg (k_mov rfl (k_nil (wpE_ret ?_)));cases h
            exact ⟨by decide,rfl,fun _=>e_ret (ct:=0) (.tmp rfl (back_sc rfl) .nil) rfl⟩
           ·have h:=cfalse h g220
            refine e_regD (by kernel_rfl) (by kernel_rfl) (k_mov rfl (k_bin rfl rfl rfl (k_mov rfl (gL fun σ221 e222=>?_))));have k224 : Keep [2,5,6,7] 75 160 σ166 σ221:=by rw [e222]; repeat (first | exact k183 | refine Keep.upd ?_ rfl _)
            have f229:=(congrFun e222 4).trans f189;have f232:=(congrFun e222 75).trans f180;have f233 : σ221 6 = .v (.c (.r (.ptr 6 g202 0))):=(congrFun e222 6).trans rfl;have f234 : σ221 5 = V (.int .i64 w179):=(congrFun e222 5).trans rfl;have f235 : σ221 7 = V (.str y215):=(congrFun e222 7).trans rfl;have f236 : σ221 93 = V (.bool ((decide (w179 > ((0 : Int)))))):=(congrFun e222 93).trans rfl;obtain ⟨y246,e247,h⟩:=obind h;refine k_mid (fun σ' hp' _=>hp209 = hp' ∧ σ' 104 = V (.bool y246) ∧ Keep [] 94 104 σ221 σ') ?_ ?_
            ·rcases bt ((decide (w179 > ((0 : Int))))) with g237 | g237
             ·have h:=ctrue e247 g237
              refine k_yes (f236.trans (cgB g237)) (k_fadrB (o:=0) f233 k210 (k_yes (f236.trans (cgB g237)) (k_loadB rfl k210 rfl (k_yes (f236.trans (cgB g237)) (k_fadrB (o:=3) f229 k214 (k_yes (f236.trans (cgB g237)) (k_loadB rfl k214 rfl (k_yes (f236.trans (cgB g237)) (k_mov f234 ?_)))))))));refine k_yes (f236.trans (cgB g237)) (k_bin rfl rfl rfl (k_yes (f236.trans (cgB g237)) ?_));obtain ⟨y238,e239,h⟩:=obind h;refine k_iadrL rfl (sv.any [] _ q27) rfl e239 rfl fun p240 c241 q242 h243=>?_;obtain ⟨_,rfl⟩:=uR2.inv h243;refine k_yes (f236.trans (cgB g237)) (k_fadrL (o:=0) rfl q242 (nlt rfl) fun p244 q245=>?_);refine k_yes (f236.trans (cgB g237)) (k_loadL rfl q245 rfl (k_yes (f236.trans (cgB g237)) (k_bin rfl rfl rfl (k_pickT (f236.trans (cgB g237)) rfl ?_))));exact ⟨rfl,cgB (Option.some.inj h),(by repeat (first | exact (Keep.refl _ _ _ _) | refine Keep.upd ?_ rfl _))⟩
             ·have h:=cfalse e247 g237
              refine k_no (f236.trans (cgB g237)) rfl (k_no (f236.trans (cgB g237)) rfl (k_no (f236.trans (cgB g237)) rfl (k_no (f236.trans (cgB g237)) rfl (k_no (f236.trans (cgB g237)) rfl (k_no (f236.trans (cgB g237)) rfl (k_no (f236.trans (cgB g237)) rfl (k_no (f236.trans (cgB g237)) rfl (k_no (f236.trans (cgB g237)) rfl (k_no (f236.trans (cgB g237)) rfl ?_)))))))));refine k_pickF (f236.trans (cgB g237)) rfl ?_;exact ⟨rfl,cgB (Option.some.inj h),(by repeat (first | exact (Keep.refl _ _ _ _) | refine Keep.upd ?_ rfl _))⟩
            rintro σ248 _ _ ⟨rfl,f250,k249⟩;have f255:=(k249 4 rfl).trans f229;have f258:=(k249 75 rfl).trans f232;have f259:=(k249 6 rfl).trans f233;have f260:=(k249 5 rfl).trans f234;have f261:=(k249 7 rfl).trans f235;have k263 : Keep [2,5,6,7] 75 160 σ166 σ248:=Keep.trans k224 (Keep.sub k249 rfl);refine k_mov f250 (k_nil (wpE_cond (p:=y246) rfl (fun g264=>?_) (fun g264=>?_)))
            ·have h:=ctrue h g264
             refine e_reg (k_mov rfl (k_nil (wpE_ret ?_)));cases h
             exact ⟨by decide,rfl,fun _=>e_ret (ct:=0) (.tmp rfl (back_sc rfl) .nil) rfl⟩
            ·have h:=cfalse h g264
             refine wpE_seq (e_regD (by kernel_rfl) (by kernel_rfl) (k_mov f260 (k_bin rfl rfl rfl (k_mov rfl (gL fun σ265 e266=>?_)))));have k268 : Keep [2,5,6,7] 75 160 σ166 σ265:=by rw [e266]; repeat (first | exact k263 | refine Keep.upd ?_ rfl _)
             have f273:=(congrFun e266 4).trans f255;have f276:=(congrFun e266 75).trans f258;have f277:=(congrFun e266 6).trans f259;have f278:=(congrFun e266 5).trans f260;have f279:=(congrFun e266 7).trans f261;have f280 : σ265 108 = V (.bool ((decide (w179 > ((0 : Int)))))):=(congrFun e266 108).trans rfl;obtain ⟨y293,e294,h⟩:=obind h;refine k_mid (fun σ' hp' _=>hp209 = hp' ∧ σ' 119 = V (.bool y293) ∧ Keep [] 109 119 σ265 σ') ?_ ?_
             ·rcases bt ((decide (w179 > ((0 : Int))))) with g281 | g281
              ·have h:=ctrue e294 g281
               refine k_yes (f280.trans (cgB g281)) (k_fadrB (o:=0) f277 k210 (k_yes (f280.trans (cgB g281)) (k_loadB rfl k210 rfl (k_yes (f280.trans (cgB g281)) (k_fadrB (o:=3) f273 k214 (k_yes (f280.trans (cgB g281)) (k_loadB rfl k214 rfl (k_yes (f280.trans (cgB g281)) (k_mov f278 ?_)))))))));refine k_yes (f280.trans (cgB g281)) (k_bin rfl rfl rfl (k_yes (f280.trans (cgB g281)) ?_));obtain ⟨y282,e283,h⟩:=obind h;refine k_iadrL rfl (sv.any [] _ q27) rfl e283 rfl fun p284 c285 q286 h287=>?_;obtain ⟨_,rfl⟩:=uR2.inv h287;refine k_yes (f280.trans (cgB g281)) (k_fadrL (o:=0) rfl q286 (nlt rfl) fun p288 q289=>?_);refine k_yes (f280.trans (cgB g281)) (k_loadL rfl q289 rfl (k_yes (f280.trans (cgB g281)) ?_));obtain ⟨y290,e291,h⟩:=obind h;refine k_call (.cons rfl rfl (.cons rfl rfl .nil)) (s96  e291) (.inl rfl) ?_;rintro _ rfl;refine k_pickT (f280.trans (cgB g281)) rfl ?_;exact ⟨rfl,cgB (Option.some.inj h),(by repeat (first | exact (Keep.refl _ _ _ _) | refine Keep.upd ?_ rfl _))⟩
              ·have h:=cfalse e294 g281
               refine k_no (f280.trans (cgB g281)) rfl (k_no (f280.trans (cgB g281)) rfl (k_no (f280.trans (cgB g281)) rfl (k_no (f280.trans (cgB g281)) rfl (k_no (f280.trans (cgB g281)) rfl (k_no (f280.trans (cgB g281)) rfl (k_no (f280.trans (cgB g281)) rfl (k_no (f280.trans (cgB g281)) rfl (k_no (f280.trans (cgB g281)) rfl (k_no (f280.trans (cgB g281)) rfl ?_)))))))));refine k_pickF (f280.trans (cgB g281)) rfl ?_;exact ⟨rfl,cgB (Option.some.inj h),(by repeat (first | exact (Keep.refl _ _ _ _) | refine Keep.upd ?_ rfl _))⟩
             rintro σ295 _ _ ⟨rfl,f297,k296⟩;have f302:=(k296 4 rfl).trans f273;have f305:=(k296 75 rfl).trans f276;have f306:=(k296 6 rfl).trans f277;have f307:=(k296 7 rfl).trans f279;have k309 : Keep [2,5,6,7] 75 160 σ166 σ295:=Keep.trans k268 (Keep.sub k296 rfl);refine k_mov f297 (k_nil (gE fun σ310 e311=>?_));have k313 : Keep [2,5,6,7] 75 160 σ166 σ310:=by rw [e311]; repeat (first | exact k309 | refine Keep.upd ?_ rfl _)
             have f318:=(congrFun e311 4).trans f302;have f321:=(congrFun e311 75).trans f305;have f322:=(congrFun e311 6).trans f306;have f323:=(congrFun e311 7).trans f307;have f324 : σ310 105 = V (.bool y293):=(congrFun e311 105).trans rfl;obtain ⟨y327,h326,h⟩:=obind h;refine wpE_mono (Q:=fun ex σ' hp' _=>ex = .normal ∧ σ' 105 = V (.bool y327) ∧ Keep [] 105 127 σ310 σ' ∧ hp209 = hp') ?_ ?_
             ·clear h; have h:=h326
              refine wpE_cond (p:=y293) f324 (fun g328=>?_) (fun g328=>?_)
              ·have h:=ctrue h g328
               refine wpE_skip ?_;have q0:=Option.some.inj h;obtain rfl:=q0;exact ⟨rfl,f324,(by repeat (first | exact (Keep.refl _ _ _ _) | refine Keep.upd ?_ rfl _)),rfl⟩
              ·have h:=cfalse h g328
               refine e_reg (k_mov f323 (k_fadrB (o:=1) f318 k214 (k_loadB rfl k214 rfl ?_)));obtain ⟨y329,e330,h⟩:=obind h;refine k_call (.cons rfl rfl (.cons rfl rfl .nil)) (s96  e330) (.inl rfl) ?_;rintro _ rfl;refine k_mov rfl (k_nil (wpE_cond (p:=y329) rfl (fun g332=>?_) (fun g332=>?_)))
               ·have h:=ctrue h g332
                refine wpE_skip ?_;have q0:=Option.some.inj h;obtain rfl:=q0;exact ⟨rfl,rfl,(by repeat (first | exact (Keep.refl _ _ _ _) | refine Keep.upd ?_ rfl _)),rfl⟩
               ·have h:=cfalse h g332
                refine e_last (k_fadrB (o:=1) f318 k214 (k_loadB rfl k214 rfl (k_mov f323 ?_)));obtain ⟨y333,e334,h⟩:=obind h;refine k_call (.cons rfl rfl (.cons rfl rfl .nil)) (s96  e334) (.inl rfl) ?_;rintro _ rfl;refine k_mov rfl (k_nil ?_);have q0:=Option.some.inj h;obtain rfl:=q0;exact ⟨rfl,rfl,(by repeat (first | exact (Keep.refl _ _ _ _) | refine Keep.upd ?_ rfl _)),rfl⟩
             rintro _ σ337 _ _ ⟨rfl,f336,k339,rfl⟩;have f345:=(k339 4 rfl).trans f318;have f348:=(k339 75 rfl).trans f321;have f349:=(k339 6 rfl).trans f322;have k351 : Keep [2,5,6,7] 75 160 σ166 σ337:=Keep.trans k313 (Keep.sub k339 rfl);refine wpE_cond (p:=y327) f336 (fun g352=>?_) (fun g352=>?_)
             ·have h:=ctrue h g352
              refine e_reg (k_mov rfl (k_nil (wpE_ret ?_)));cases h
              exact ⟨by decide,rfl,fun _=>e_ret (ct:=0) (.tmp rfl (back_sc rfl) .nil) rfl⟩
             ·have h:=cfalse h g352
              refine e_reg (k_fadrB (o:=1) f349 k210 (k_loadB rfl k210 rfl (k_fadrB (o:=0) f349 k210 (k_loadB rfl k210 rfl (k_lenS rfl (k_bin rfl rfl rfl (k_mov rfl (gL fun σ353 e354=>?_))))))));have k356 : Keep [2,5,6,7] 75 160 σ166 σ353:=by rw [e354]; repeat (first | exact k351 | refine Keep.upd ?_ rfl _)
              have f361:=(congrFun e354 4).trans f345;have f364:=(congrFun e354 75).trans f348;have f365:=(congrFun e354 6).trans f349;have f366 : σ353 135 = V (.bool ((decide (y196.Low ≤ ((List.length y196.Prefix : Int)))))):=(congrFun e354 135).trans rfl;refine k_mid (fun σ' hp' _=>hp209 = hp' ∧ σ' 141 = V (.bool (((decide (y196.Low ≤ ((List.length y196.Prefix : Int)))) || (decide (y196.Low > y196.High))))) ∧ Keep [] 136 141 σ353 σ') ?_ ?_
              ·rcases bt ((decide (y196.Low ≤ ((List.length y196.Prefix : Int))))) with g367 | g367
               ·refine k_no (f366.trans (cgB g367)) rfl ?_
                refine k_no (f366.trans (cgB g367)) rfl (k_no (f366.trans (cgB g367)) rfl (k_no (f366.trans (cgB g367)) rfl (k_no (f366.trans (cgB g367)) rfl (k_pickT (f366.trans (cgB g367)) rfl ?_))));exact ⟨rfl,cgB (by rw [g367]; rfl),(by repeat (first | exact (Keep.refl _ _ _ _) | refine Keep.upd ?_ rfl _))⟩
               ·refine k_yes (f366.trans (cgB g367)) ?_
                refine k_fadrB (o:=1) f365 k210 (k_yes (f366.trans (cgB g367)) (k_loadB rfl k210 rfl (k_yes (f366.trans (cgB g367)) (k_fadrB (o:=2) f365 k210 (k_yes (f366.trans (cgB g367)) (k_loadB rfl k210 rfl (k_yes (f366.trans (cgB g367)) (k_bin rfl rfl rfl (k_pickF (f366.trans (cgB g367)) rfl ?_)))))))));exact ⟨rfl,cgB (by rw [g367]; rfl),(by repeat (first | exact (Keep.refl _ _ _ _) | refine Keep.upd ?_ rfl _))⟩
              rintro σ368 _ _ ⟨rfl,f370,k369⟩;have f375:=(k369 4 rfl).trans f361;have f378:=(k369 75 rfl).trans f364;have f379:=(k369 6 rfl).trans f365;have k381 : Keep [2,5,6,7] 75 160 σ166 σ368:=Keep.trans k356 (Keep.sub k369 rfl);refine k_mov f370 (gL fun σ382 e383=>?_);have k385 : Keep [2,5,6,7] 75 160 σ166 σ382:=by rw [e383]; repeat (first | exact k381 | refine Keep.upd ?_ rfl _)
              have f390:=(congrFun e383 4).trans f375;have f393:=(congrFun e383 75).trans f378;have f394:=(congrFun e383 6).trans f379;have f395 : σ382 142 = V (.bool (((decide (y196.Low ≤ ((List.length y196.Prefix : Int)))) || (decide (y196.Low > y196.High))))):=(congrFun e383 142).trans rfl;refine k_mid (fun σ' hp' _=>hp209 = hp' ∧ σ' 150 = V (.bool ((((decide (y196.Low ≤ ((List.length y196.Prefix : Int)))) || (decide (y196.Low > y196.High))) || (decide (((IntKind.wrap .i64 (y196.High + ((List.length y20.Code : Int))))) > ((15 : Int))))))) ∧ Keep [] 143 150 σ382 σ') ?_ ?_
              ·rcases bt (((decide (y196.Low ≤ ((List.length y196.Prefix : Int)))) || (decide (y196.Low > y196.High)))) with g396 | g396
               ·refine k_no (f395.trans (cgB g396)) rfl ?_
                refine k_no (f395.trans (cgB g396)) rfl (k_no (f395.trans (cgB g396)) rfl (k_no (f395.trans (cgB g396)) rfl (k_no (f395.trans (cgB g396)) rfl (k_no (f395.trans (cgB g396)) rfl (k_no (f395.trans (cgB g396)) rfl (k_pickT (f395.trans (cgB g396)) rfl ?_))))));exact ⟨rfl,cgB (by rw [g396]; rfl),(by repeat (first | exact (Keep.refl _ _ _ _) | refine Keep.upd ?_ rfl _))⟩
               ·refine k_yes (f395.trans (cgB g396)) ?_
                refine k_fadrB (o:=2) f394 k210 (k_yes (f395.trans (cgB g396)) (k_loadB rfl k210 rfl (k_yes (f395.trans (cgB g396)) (k_fadrB (o:=0) f390 k214 (k_yes (f395.trans (cgB g396)) (k_loadB rfl k214 rfl (k_yes (f395.trans (cgB g396)) (k_lenS rfl (k_yes (f395.trans (cgB g396)) ?_)))))))));refine k_bin rfl rfl rfl (k_yes (f395.trans (cgB g396)) (k_bin rfl rfl rfl (k_pickF (f395.trans (cgB g396)) rfl ?_)));exact ⟨rfl,cgB (by rw [g396]; rfl),(by repeat (first | exact (Keep.refl _ _ _ _) | refine Keep.upd ?_ rfl _))⟩
              rintro σ397 _ _ ⟨rfl,f399,k398⟩;have f404:=(k398 4 rfl).trans f390;have f407:=(k398 75 rfl).trans f393;have f408:=(k398 6 rfl).trans f394;have k410 : Keep [2,5,6,7] 75 160 σ166 σ397:=Keep.trans k385 (Keep.sub k398 rfl);refine k_mov f399 (gL fun σ411 e412=>?_);have k414 : Keep [2,5,6,7] 75 160 σ166 σ411:=by rw [e412]; repeat (first | exact k410 | refine Keep.upd ?_ rfl _)
              have f419:=(congrFun e412 4).trans f404;have f422:=(congrFun e412 75).trans f407;have f423:=(congrFun e412 6).trans f408;have f424 : σ411 151 = V (.bool ((((decide (y196.Low ≤ ((List.length y196.Prefix : Int)))) || (decide (y196.Low > y196.High))) || (decide (((IntKind.wrap .i64 (y196.High + ((List.length y20.Code : Int))))) > ((15 : Int))))))):=(congrFun e412 151).trans rfl;refine k_mid (fun σ' hp' _=>hp209 = hp' ∧ σ' 159 = V (.bool (((((decide (y196.Low ≤ ((List.length y196.Prefix : Int)))) || (decide (y196.Low > y196.High))) || (decide (((IntKind.wrap .i64 (y196.High + ((List.length y20.Code : Int))))) > ((15 : Int))))) || (decide (((IntKind.wrap .i64 (y196.Low + ((List.length y20.Code : Int))))) < ((4 : Int))))))) ∧ Keep [] 152 159 σ411 σ') ?_ ?_
              ·rcases bt ((((decide (y196.Low ≤ ((List.length y196.Prefix : Int)))) || (decide (y196.Low > y196.High))) || (decide (((IntKind.wrap .i64 (y196.High + ((List.length y20.Code : Int))))) > ((15 : Int)))))) with g425 | g425
               ·refine k_no (f424.trans (cgB g425)) rfl ?_
                refine k_no (f424.trans (cgB g425)) rfl (k_no (f424.trans (cgB g425)) rfl (k_no (f424.trans (cgB g425)) rfl (k_no (f424.trans (cgB g425)) rfl (k_no (f424.trans (cgB g425)) rfl (k_no (f424.trans (cgB g425)) rfl (k_pickT (f424.trans (cgB g425)) rfl ?_))))));exact ⟨rfl,cgB (by rw [g425]; rfl),(by repeat (first | exact (Keep.refl _ _ _ _) | refine Keep.upd ?_ rfl _))⟩
               ·refine k_yes (f424.trans (cgB g425)) ?_
                refine k_fadrB (o:=1) f423 k210 (k_yes (f424.trans (cgB g425)) (k_loadB rfl k210 rfl (k_yes (f424.trans (cgB g425)) (k_fadrB (o:=0) f419 k214 (k_yes (f424.trans (cgB g425)) (k_loadB rfl k214 rfl (k_yes (f424.trans (cgB g425)) (k_lenS rfl (k_yes (f424.trans (cgB g425)) ?_)))))))));refine k_bin rfl rfl rfl (k_yes (f424.trans (cgB g425)) (k_bin rfl rfl rfl (k_pickF (f424.trans (cgB g425)) rfl ?_)));exact ⟨rfl,cgB (by rw [g425]; rfl),(by repeat (first | exact (Keep.refl _ _ _ _) | refine Keep.upd ?_ rfl _))⟩
              rintro σ426 _ _ ⟨rfl,f428,k427⟩;have f436:=(k427 75 rfl).trans f422;have k438 : Keep [2,5,6,7] 75 160 σ166 σ426:=Keep.trans k414 (Keep.sub k427 rfl);refine k_mov f428 ?_;obtain ⟨u439,e440,h⟩:=bnd_e h;refine k_nil (wpE_cond (p:=u439) (cgB e440) (fun g441=>?_) (fun g441=>?_))
              ·have h:=ctrue h g441
               refine e_reg (k_mov rfl (k_nil (wpE_ret ?_)));cases h
               exact ⟨by decide,rfl,fun _=>e_ret (ct:=0) (.tmp rfl (back_sc rfl) .nil) rfl⟩
              ·have h:=cfalse h g441
               refine wpE_skip (e_last (k_bin f436 rfl rfl (k_mov rfl (k_nil ?_))));cases h
               exact ⟨rfl,rfl,(by repeat (first | exact k438 | refine Keep.upd ?_ rfl _)),r213⟩
          ·have h:=cfalse h g195
           refine wpE_exit ?_;cases h
           exact ⟨by decide,rfl,(by repeat (first | exact k183 | refine Keep.upd ?_ rfl _)),r184⟩
         rcases e177 with _ | r1;rotate_left
         ·rintro _ _ _ _ ⟨rfl,hX⟩
          cases h
          exact ⟨by decide,rfl,hX⟩
         rintro _ σ442 hp443 _ ⟨rfl,k444,r445⟩;have f449:=(k444 13 rfl).trans f172;have k450 : Keep [2,3,4,5,6,7] 13 161 σ2 σ442:=Keep.trans k168 (Keep.sub k444 rfl);have r451 : Fr [4,6] [] hp443:=Fr.ext r36 r445 rfl;refine e_last (k_bin f449 rfl rfl (k_mov rfl (k_nil ?_)));cases h
         exact ⟨rfl,rfl,(by repeat (first | exact k450 | refine Keep.upd ?_ rfl _)),r451⟩
   ·have h:=cfalse h g19
    refine wpE_exit ?_;cases h
    exact ⟨by decide,rfl,(by repeat (first | exact k14 | refine Keep.upd ?_ rfl _)),r15⟩
  rcases e8 with _ | r1;rotate_left
  ·rintro _ _ _ _ ⟨rfl,hX⟩
   cases h
   exact hX 0
  rintro _ σ452 hp453 _ ⟨rfl,k454,r455⟩;refine e_reg (k_mov rfl (k_nil (wpE_ret ?_)));cases h
  exact e_ret (ct:=0) (.tmp rfl (back_sc rfl) .nil) rfl
theorem ready_run : isTrue1 (run tabs fns (xRun kx) 40 20 35 [] []) = true:=by kernel_rfl
theorem s35 {r : Bool} (h : uF35 = some r) : pc L 35 [] true (P35 r):=by
 cases h
 exact pc_true ready_run
theorem s101 {x0 : List UInt8} {r : Bool}  (h : uF101 x0 = some r) : pc L 101 [.c (I (.str x0))] true (P101 r):=by
 refine fn_pure (fn:=ir101) rfl (nlt rfl) fun lent hl=>?_;unfold uF101 at h;refine e_reg (k_mov rfl (k_nil (e_reg (k_mov rfl ?_))));obtain ⟨y1,e2,h⟩:=obind h;refine k_call (.cons rfl rfl (.cons rfl rfl .nil)) (s96  e2) (.inl rfl) ?_;rintro _ rfl;refine k_mov rfl (gL fun σ4 e5=>?_);have f6 : σ4 0 = V (.str x0):=(congrFun e5 0).trans rfl;have f7 : σ4 5 = V (.bool y1):=(congrFun e5 5).trans rfl;obtain ⟨y14,e15,h⟩:=obind h;refine k_mid (fun σ' hp' _=>[] = hp' ∧ σ' 9 = V (.bool y14) ∧ Keep [] 6 9 σ4 σ') ?_ ?_
 ·rcases bt y1 with g8 | g8
  ·have h:=ctrue e15 g8
   refine k_yes (f7.trans (cgB g8)) (k_mov f6 (k_yes (f7.trans (cgB g8)) ?_));obtain ⟨y9,e10,h⟩:=obind h;refine k_slcT rfl (.some rfl) .none e10 (k_yes (f7.trans (cgB g8)) ?_);obtain ⟨y11,e12,h⟩:=obind h;refine k_call (.cons rfl rfl (.cons rfl rfl (.cons rfl rfl .nil))) (s94  e12) (.inl rfl) ?_;rintro _ rfl;refine k_pickT (f7.trans (cgB g8)) rfl ?_;exact ⟨rfl,cgB (Option.some.inj h),(by repeat (first | exact (Keep.refl _ _ _ _) | refine Keep.upd ?_ rfl _))⟩
  ·have h:=cfalse e15 g8
   refine k_no (f7.trans (cgB g8)) rfl (k_no (f7.trans (cgB g8)) rfl (k_no (f7.trans (cgB g8)) rfl (k_pickF (f7.trans (cgB g8)) rfl ?_)));exact ⟨rfl,cgB (Option.some.inj h),(by repeat (first | exact (Keep.refl _ _ _ _) | refine Keep.upd ?_ rfl _))⟩
 rintro σ16 _ _ ⟨rfl,f18,k17⟩;have f19:=(k17 0 rfl).trans f6;refine k_mov f18 (gL fun σ20 e21=>?_);have f22:=(congrFun e21 0).trans f19;have f23 : σ20 10 = V (.bool y14):=(congrFun e21 10).trans rfl;obtain ⟨y27,e28,h⟩:=obind h;refine k_mid (fun σ' hp' _=>[] = hp' ∧ σ' 14 = V (.bool y27) ∧ Keep [] 11 14 σ20 σ') ?_ ?_
 ·rcases bt y14 with g24 | g24
  ·have h:=ctrue e28 g24
   refine k_yes (f23.trans (cgB g24)) (k_mov f22 (k_yes (f23.trans (cgB g24)) ?_));obtain ⟨y25,e26,h⟩:=obind h;refine k_idxS rfl rfl e26 (k_yes (f23.trans (cgB g24)) (k_bin rfl rfl rfl (k_pickT (f23.trans (cgB g24)) rfl ?_)));exact ⟨rfl,cgB (Option.some.inj h),(by repeat (first | exact (Keep.refl _ _ _ _) | refine Keep.upd ?_ rfl _))⟩
  ·have h:=cfalse e28 g24
   refine k_no (f23.trans (cgB g24)) rfl (k_no (f23.trans (cgB g24)) rfl (k_no (f23.trans (cgB g24)) rfl (k_pickF (f23.trans (cgB g24)) rfl ?_)));exact ⟨rfl,cgB (Option.some.inj h),(by repeat (first | exact (Keep.refl _ _ _ _) | refine Keep.upd ?_ rfl _))⟩
 rintro σ29 _ _ ⟨rfl,f31,k30⟩;refine k_mov f31 (k_nil (wpE_ret ?_));cases h
 exact e_ret (ct:=0) (.tmp rfl (back_sc rfl) .nil) rfl
theorem s165 {x0 : List UInt8} {x1 : List UInt8} {r : List UInt8 × Bool}  (h : uF165 x0 x1 = some r) : pc L 165 [.c (I (.str x0)),.c (I (.str x1))] true (P165 r):=by
 refine fn_pure (fn:=ir165) rfl (nlt rfl) fun lent hl=>?_;unfold uF165 at h;refine e_reg (k_mov rfl ?_);obtain ⟨u1,e2,h⟩:=bnd_e h;refine k_mov rfl (k_nil (wpE_seq (e_reg (k_mov rfl (k_mov rfl ?_)))));obtain ⟨y3,e4,h⟩:=obind h;refine k_call (.cons rfl rfl (.cons rfl rfl .nil)) (s161  e4) (.inl rfl) ?_;rintro _ rfl;refine k_not rfl (k_nil (wpE_cond (p:=(!y3)) rfl (fun g6=>?_) (fun g6=>?_)))
 ·have h:=ctrue h g6
  refine e_reg (k_mov rfl (k_mov rfl (k_mov rfl (k_nil (wpE_ret ?_)))));cases h
  exact e_ret (ct:=0) (.tmp rfl (back_sc rfl) (.tmp rfl (back_sc rfl) .nil)) rfl
 ·have h:=cfalse h g6
  refine wpE_skip (e_reg (k_mov rfl (k_mov rfl (k_lenS rfl ?_))));obtain ⟨y7,e8,h⟩:=obind h;refine k_slcT rfl (.some rfl) .none e8 (k_mov rfl (k_mov rfl (k_nil (wpE_ret ?_))));cases h
  exact e_ret (ct:=0) (.tmp rfl (back_sc rfl) (.tmp rfl (back_sc rfl) .nil)) rfl
theorem s102 {x0 : List UInt8} {x1 : List UInt8} {r : List UInt8 × Bool}  (h : uF102 x0 x1 = some r) : pc L 102 [.c (I (.str x0)),.c (I (.str x1))] true (P102 r):=by
 refine fn_pure (fn:=ir102) rfl (nlt rfl) fun lent hl=>?_;unfold uF102 at h;refine e_reg (k_mov rfl ?_);obtain ⟨u1,e2,h⟩:=bnd_e h;refine k_mov rfl (k_nil (e_reg (k_mov rfl (k_mov rfl ?_))));obtain ⟨y3,e4,h⟩:=obind h;refine k_call (.cons rfl rfl (.cons rfl rfl .nil)) (s165  e4) (.inl rfl) ?_;rintro _ rfl;refine k_ext rfl rfl (k_ext rfl rfl (k_mov rfl (k_mov rfl (k_nil (wpE_ret ?_)))));cases h
 exact e_ret (ct:=0) (.tmp rfl (back_sc rfl) (.tmp rfl (back_sc rfl) .nil)) rfl
theorem s37 {x0 : List uT1} {vx0 : IV} {x1 : List UInt8} {r : uT3 × Int} (hx0 : sv uR1 false vx0 x0) (h : uF37 x0 x1 = some r) : pc L 37 [.c (I vx0),.c (I (.str x1))] true (P37 r):=by
 refine fn_pure (fn:=ir37) rfl (nlt rfl) fun lent hl=>?_;unfold uF37 at h;refine e_reg (k_alloc fun g1 hp2 k3 r4=>?_);refine k_mov rfl (k_nil (wpE_seq (e_reg (k_mov rfl ?_))));obtain ⟨y5,e6,h⟩:=obind h;refine k_call (.cons rfl rfl .nil) (s101  e6) (.inl rfl) ?_;rintro _ rfl;refine k_not rfl (k_nil (wpE_cond (p:=(!y5)) rfl (fun g8=>?_) (fun g8=>?_)))
 ·have h:=ctrue h g8
  refine e_reg (k_build .nil rfl (k_storeB rfl rfl k3 rfl fun hp9 k10 r11=>?_));refine k_mov rfl (k_nil (wpE_ret ?_));cases h
  exact e_ret (ct:=0) (.cell rfl k10 rfl (BackP.agg (.cons (backC_inl fun _=>rfl) (.cons (backC_inl fun _=>rfl) (.cons (backC_inl fun _=>rfl) .nil)))) (.tmp rfl (back_sc rfl) .nil)) ⟨[IV.str [],IV.str [],IV.str []],rfl,(uR3.mk)⟩
 ·have h:=cfalse h g8
  refine wpE_skip (wpE_seq (e_reg (k_mov rfl (k_len rfl (sv.any [] _ hx0) (k_mov rfl (k_nil (wpE_block (gE fun σ12 e13=>?_))))))));have f14 : σ12 1 = V (.str x1):=(congrFun e13 1).trans rfl;have f15 : σ12 4 = .v (.c (.r (.ptr 4 g1 0))):=(congrFun e13 4).trans rfl;have f16 : σ12 18 = .v (.c ((I vx0))):=(congrFun e13 18).trans rfl;have f17 : σ12 19 = V (.int .i64 ((List.length x0 : Int))):=(congrFun e13 19).trans rfl;have f18 : σ12 20 = V (.int .i64 ((0 : Int))):=(congrFun e13 20).trans rfl;obtain ⟨e19,h20,h⟩:=lret_e h;refine wpE_mono (e_loop h20 (I:=fun s σ' hp' _=>σ' 20 = V (.int .i64 s.1) ∧ (∃ c,hp'.get 4 = some (.cells g1 (c.map I)) ∧ uR3.rp true c s.2) ∧ Keep [5,7,8,9,11,12,13] 20 70 σ12 σ' ∧ Fr [4,7,11] hp2 hp') (X:=fun e ex σ' hp' _=>match e with | .inl e=>ex = .exit 0 ∧ (∃ c,hp'.get 4 = some (.cells g1 (c.map I)) ∧ uR3.rp true c e) ∧ Keep [5,7,8,9,11,12,13] 20 70 σ12 σ' ∧ Fr [4,7,11] hp2 hp' | .inr r=>ex = .ret ∧ ∀ ct,atEnd 72 [Res.cell 4 3 true,Res.tmp 5] (fin lent (P37 r)) .ret σ' hp' ct) ⟨f18,⟨[IV.str [],IV.str [],IV.str []],k3,(uR3.mk)⟩,Keep.refl _ _ _ _,Fr.refl _ _⟩ ?_) ?_
  ·clear h
   rintro ⟨w21,w22⟩ o σ27 hp28 _ h ⟨f23,⟨c24,k25,h26⟩,k29,r30⟩;have h : uF37a x0 x1 w21 w22 = some o:=h; unfold uF37a at h;have f31:=(k29 1 rfl).trans f14;have f32:=(k29 4 rfl).trans f15;have f33:=(k29 18 rfl).trans f16;have f34:=(k29 19 rfl).trans f17;obtain ⟨_,rfl⟩:=uR3.inv h26;refine e_reg (k_bin f23 f34 rfl (k_nil (wpE_seq (wpE_cond (p:=(decide (w21 < ((List.length x0 : Int))))) rfl (fun g35=>?_) (fun g35=>?_)))))
   ·have h:=ctrue h g35
    refine wpE_skip (wpE_seq (wpE_block (e_reg ?_)));obtain ⟨y36,e37,h⟩:=obind h;refine k_iadrL f33 (sv.any [] _ hx0) f23 e37 rfl fun p38 c39 q40 h41=>?_;obtain ⟨v42,rfl,q43⟩:=uR1.inv h41;refine k_loadL rfl q40 rfl (k_alloc fun g44 hp45 k46 r47=>?_);have r48 : Fr [4,7,11] hp2 hp45:=Fr.ext r30 r47 rfl;have k49:=(r47 4 (by decide)).trans k25;refine k_storeB rfl rfl k46 rfl fun hp50 k51 r52=>?_;have r53 : Fr [4,7,11] hp2 hp50:=Fr.ext r48 r52 rfl;have k54:=(r52 4 (by decide)).trans k49;refine k_nil (e_reg (k_mov f31 (k_fadrB (o:=0) rfl k51 (k_loadB rfl k51 rfl ?_))));obtain ⟨y55,e56,h⟩:=obind h;refine k_sadd rfl rfl e56 ?_;obtain ⟨y57,e58,h⟩:=obind h;refine k_call (.cons rfl rfl (.cons rfl rfl .nil)) (s102  e58) (.inl rfl) ?_;rintro _ rfl;refine k_movT rfl (k_ext rfl rfl (k_ext rfl rfl (k_mov rfl (k_mov rfl (k_nil (wpE_seq (e_reg (k_mov rfl (k_not rfl ?_)))))))));refine k_nil (wpE_cond (p:=(!y57.2)) rfl (fun g60=>?_) (fun g60=>?_))
    ·have h:=ctrue h g60
     refine wpE_exit (e_last (k_bin f23 rfl rfl (k_mov rfl (k_nil ?_))));cases h
     exact ⟨rfl,rfl,⟨[IV.str w22.Country,IV.str w22.Area,IV.str w22.Rest],k54,(uR3.mk)⟩,(by repeat (first | exact k29 | refine Keep.upd ?_ rfl _)),r53⟩
    ·have h:=cfalse h g60
     refine wpE_skip (e_reg (k_fadrB (o:=3) rfl k51 (k_loadB rfl k51 rfl (k_len rfl (sv.any [] _ q43) (k_mov rfl (k_nil (wpE_block (gE fun σ61 e62=>?_))))))));have k63 : Keep [5,7,8,9,11,12,13] 20 70 σ12 σ61:=by rw [e62]; repeat (first | exact k29 | refine Keep.upd ?_ rfl _)
     have f65:=(congrFun e62 4).trans f32;have f68:=(congrFun e62 20).trans f23;have f69 : σ61 7 = .v (.c (.r (.ptr 7 g44 0))):=(congrFun e62 7).trans rfl;have f70 : σ61 8 = V (.str y57.1):=(congrFun e62 8).trans rfl;have f71 : σ61 35 = .v (.c ((I v42))):=(congrFun e62 35).trans rfl;have f72 : σ61 36 = V (.int .i64 ((List.length y36.Areas : Int))):=(congrFun e62 36).trans rfl;have f73 : σ61 37 = V (.int .i64 ((0 : Int))):=(congrFun e62 37).trans rfl;obtain ⟨e74,h75,h⟩:=lret_e h;refine wpE_mono (e_loop h75 (I:=fun s σ' hp' _=>σ' 37 = V (.int .i64 s.1) ∧ (∃ c,hp'.get 4 = some (.cells g1 (c.map I)) ∧ uR3.rp true c s.2) ∧ Keep [5,11,12,13] 37 69 σ61 σ' ∧ Fr [4,11] hp50 hp') (X:=fun e ex σ' hp' _=>match e with | .inl e=>ex = .exit 2 ∧ (∃ c,hp'.get 4 = some (.cells g1 (c.map I)) ∧ uR3.rp true c e) ∧ Keep [5,11,12,13] 37 69 σ61 σ' ∧ Fr [4,11] hp50 hp' | .inr r=>ex = .ret ∧ ∀ ct,atEnd 72 [Res.cell 4 3 true,Res.tmp 5] (fin lent (P37 r)) .ret σ' hp' ct) ⟨f73,⟨[IV.str w22.Country,IV.str w22.Area,IV.str w22.Rest],k54,(uR3.mk)⟩,Keep.refl _ _ _ _,Fr.refl _ _⟩ ?_) ?_
     ·clear h
      rintro ⟨w76,w77⟩ o σ82 hp83 _ h ⟨f78,⟨c79,k80,h81⟩,k84,r85⟩;have h : uF37b y36 y57 w76 w77 = some o:=h; unfold uF37b at h;have f87:=(k84 4 rfl).trans f65;have f91:=(k84 7 rfl).trans f69;have f92:=(k84 8 rfl).trans f70;have f93:=(k84 35 rfl).trans f71;have f94:=(k84 36 rfl).trans f72;have k97:=(r85 7 (by decide)).trans k51;obtain ⟨_,rfl⟩:=uR3.inv h81;refine e_reg (k_bin f78 f94 rfl (k_nil (wpE_seq (wpE_cond (p:=(decide (w76 < ((List.length y36.Areas : Int))))) rfl (fun g98=>?_) (fun g98=>?_)))))
      ·have h:=ctrue h g98
       refine wpE_skip (wpE_seq (wpE_block (e_reg ?_)));obtain ⟨y99,e100,h⟩:=obind h;refine k_iadrL f93 (sv.any [] _ q43) f78 e100 rfl fun p101 c102 q103 h104=>?_;obtain ⟨_,rfl⟩:=uR2.inv h104;refine k_loadL rfl q103 rfl (k_alloc fun g105 hp106 k107 r108=>?_);have r110 : Fr [4,11] hp50 hp106:=Fr.ext r85 r108 rfl;have k111:=(r108 4 (by decide)).trans k80;have k112:=(r108 7 (by decide)).trans k97;refine k_storeB rfl rfl k107 rfl fun hp113 k114 r115=>?_;have r117 : Fr [4,11] hp50 hp113:=Fr.ext r110 r115 rfl;have k118:=(r115 4 (by decide)).trans k111;have k119:=(r115 7 (by decide)).trans k112;refine k_nil (e_reg (k_mov f92 (k_fadrB (o:=0) rfl k114 (k_loadB rfl k114 rfl ?_))));obtain ⟨y120,e121,h⟩:=obind h;refine k_call (.cons rfl rfl (.cons rfl rfl .nil)) (s102  e121) (.inl rfl) ?_;rintro _ rfl;refine k_movT rfl (k_ext rfl rfl (k_ext rfl rfl (k_mov rfl (k_mov rfl (k_nil (wpE_block (e_reg (k_mov rfl (k_mov rfl ?_)))))))));refine gL fun σ123 e124=>?_;have k126 : Keep [5,11,12,13] 37 69 σ61 σ123:=by rw [e124]; repeat (first | exact k84 | refine Keep.upd ?_ rfl _)
       have f128:=(congrFun e124 4).trans f87;have f132:=(congrFun e124 7).trans f91;have f133:=(congrFun e124 8).trans f92;have f136:=(congrFun e124 37).trans f78;have f137 : σ123 11 = .v (.c (.r (.ptr 11 g105 0))):=(congrFun e124 11).trans rfl;have f138 : σ123 12 = V (.str y120.1):=(congrFun e124 12).trans rfl;have f139 : σ123 13 = V (.bool y120.2):=(congrFun e124 13).trans rfl;have f140 : σ123 50 = V (.bool y120.2):=(congrFun e124 50).trans rfl;obtain ⟨y145,e146,h⟩:=obind h;refine k_mid (fun σ' hp' _=>hp113 = hp' ∧ σ' 59 = V (.bool y145) ∧ Keep [] 51 59 σ123 σ') ?_ ?_
       ·rcases bt y120.2 with g141 | g141
        ·have h:=ctrue e146 g141
         refine k_yes (f140.trans (cgB g141)) (k_mov f133 (k_yes (f140.trans (cgB g141)) (k_lenS rfl (k_yes (f140.trans (cgB g141)) (k_fadrB (o:=1) f137 k114 (k_yes (f140.trans (cgB g141)) (k_loadB rfl k114 rfl (k_yes (f140.trans (cgB g141)) (k_fadrB (o:=2) f137 k114 ?_)))))))));refine k_yes (f140.trans (cgB g141)) (k_loadB rfl k114 rfl (k_yes (f140.trans (cgB g141)) ?_));obtain ⟨y142,e143,h⟩:=obind h;refine k_call (.cons rfl rfl (.cons rfl rfl (.cons rfl rfl .nil))) (s103  e143) (.inl rfl) ?_;rintro _ rfl;refine k_yes (f140.trans (cgB g141)) (k_not rfl (k_pickT (f140.trans (cgB g141)) rfl ?_));exact ⟨rfl,cgB (Option.some.inj h),(by repeat (first | exact (Keep.refl _ _ _ _) | refine Keep.upd ?_ rfl _))⟩
        ·have h:=cfalse e146 g141
         refine k_no (f140.trans (cgB g141)) rfl (k_no (f140.trans (cgB g141)) rfl (k_no (f140.trans (cgB g141)) rfl (k_no (f140.trans (cgB g141)) rfl (k_no (f140.trans (cgB g141)) rfl (k_no (f140.trans (cgB g141)) rfl (k_no (f140.trans (cgB g141)) rfl (k_no (f140.trans (cgB g141)) rfl (k_pickF (f140.trans (cgB g141)) rfl ?_))))))));exact ⟨rfl,cgB (Option.some.inj h),(by repeat (first | exact (Keep.refl _ _ _ _) | refine Keep.upd ?_ rfl _))⟩
       rintro σ147 _ _ ⟨rfl,f149,k148⟩;have f151:=(k148 4 rfl).trans f128;have f155:=(k148 7 rfl).trans f132;have f159:=(k148 37 rfl).trans f136;have f160:=(k148 11 rfl).trans f137;have f161:=(k148 12 rfl).trans f138;have f162:=(k148 13 rfl).trans f139;have k164 : Keep [5,11,12,13] 37 69 σ61 σ147:=Keep.trans k126 (Keep.sub k148 rfl);refine k_mov f149 (k_nil (wpE_cond (p:=y145) rfl (fun g165=>?_) (fun g165=>?_)))
       ·have h:=ctrue h g165
        refine e_reg (k_build .nil rfl (k_storeB f151 rfl k118 rfl fun hp166 k167 r168=>?_));refine k_mov rfl (k_nil (wpE_ret ?_));cases h
        exact ⟨by decide,rfl,fun _=>e_ret (ct:=0) (.cell f151 k167 rfl (BackP.agg (.cons (backC_inl fun _=>rfl) (.cons (backC_inl fun _=>rfl) (.cons (backC_inl fun _=>rfl) .nil)))) (.tmp rfl (back_sc rfl) .nil)) ⟨[IV.str [],IV.str [],IV.str []],rfl,(uR3.mk)⟩⟩
       ·have h:=cfalse h g165
        refine e_reg (k_mov f162 (k_mov rfl (k_nil (wpE_cond (p:=y120.2) rfl (fun g171=>?_) (fun g171=>?_)))))
        ·have h:=ctrue h g171
         refine e_reg (k_fadrB (o:=0) f155 k119 (k_loadB rfl k119 rfl (k_fadrB (o:=0) f160 k114 (k_loadB rfl k114 rfl (k_mov f161 (k_build (.cons rfl (.cons rfl (.cons rfl .nil))) rfl (k_storeB f151 rfl k118 rfl fun hp172 k173 r174=>?_)))))));refine k_mov rfl (k_nil (wpE_ret ?_));cases h
         exact ⟨by decide,rfl,fun _=>e_ret (ct:=0) (.cell f151 k173 rfl (BackP.agg (.cons (backC_inl fun _=>rfl) (.cons (backC_inl fun _=>rfl) (.cons (backC_inl fun _=>rfl) .nil)))) (.tmp rfl (back_sc rfl) .nil)) ⟨[IV.str y36.Code,IV.str y99.Prefix,IV.str y120.1],rfl,(uR3.mk)⟩⟩
        ·have h:=cfalse h g171
         refine wpE_skip (e_last (k_bin f159 rfl rfl (k_mov rfl (k_nil ?_))));cases h
         exact ⟨rfl,rfl,⟨[IV.str w77.Country,IV.str w77.Area,IV.str w77.Rest],k118,(uR3.mk)⟩,(by repeat (first | exact k164 | refine Keep.upd ?_ rfl _)),r117⟩
      ·have h:=cfalse h g98
       refine wpE_exit ?_;cases h
       exact ⟨by decide,rfl,⟨[IV.str w77.Country,IV.str w77.Area,IV.str w77.Rest],k80,(uR3.mk)⟩,(by repeat (first | exact k84 | refine Keep.upd ?_ rfl _)),r85⟩
     rcases e74 with y177 | r1;rotate_left
     ·rintro _ _ _ _ ⟨rfl,hX⟩
      cases h
      exact ⟨by decide,rfl,hX⟩
     rintro _ σ178 hp179 _ ⟨rfl,⟨c182,k183,h184⟩,k180,r181⟩;have f189:=(k180 20 rfl).trans f68;have k190 : Keep [5,7,8,9,11,12,13] 20 70 σ12 σ178:=Keep.trans k63 (Keep.sub k180 rfl);have r191 : Fr [4,7,11] hp2 hp179:=Fr.ext r53 r181 rfl;obtain ⟨_,rfl⟩:=uR3.inv h184;refine e_last (k_bin f189 rfl rfl (k_mov rfl (k_nil ?_)));cases h
     exact ⟨rfl,rfl,⟨[IV.str y177.Country,IV.str y177.Area,IV.str y177.Rest],k183,(uR3.mk)⟩,(by repeat (first | exact k190 | refine Keep.upd ?_ rfl _)),r191⟩
   ·have h:=cfalse h g35
    refine wpE_exit ?_;cases h
    exact ⟨by decide,rfl,⟨[IV.str w22.Country,IV.str w22.Area,IV.str w22.Rest],k25,(uR3.mk)⟩,(by repeat (first | exact k29 | refine Keep.upd ?_ rfl _)),r30⟩
  rcases e19 with y192 | r1;rotate_left
  ·rintro _ _ _ _ ⟨rfl,hX⟩
   cases h
   exact hX 0
  rintro _ σ193 hp194 _ ⟨rfl,⟨c197,k198,h199⟩,k195,r196⟩;have f200:=(k195 4 rfl).trans f15;obtain ⟨_,rfl⟩:=uR3.inv h199;refine e_reg (k_build .nil rfl (k_storeB f200 rfl k198 rfl fun hp201 k202 r203=>?_));refine k_mov rfl (k_nil (wpE_ret ?_));cases h
  exact e_ret (ct:=0) (.cell f200 k202 rfl (BackP.agg (.cons (backC_inl fun _=>rfl) (.cons (backC_inl fun _=>rfl) (.cons (backC_inl fun _=>rfl) .nil)))) (.tmp rfl (back_sc rfl) .nil)) ⟨[IV.str [],IV.str [],IV.str []],rfl,(uR3.mk)⟩
theorem s41 {x0 : List Int} {vx0 : IV} {r : Int} (hx0 : sv (Rep.int .i64) false vx0 x0) (h : uF41a x0 = some r) : pc L 41 [.c (I vx0)] true (P41 r):=by
 refine fn_pure (fn:=ir41) rfl (nlt rfl) fun lent hl=>?_;unfold uF41a at h;refine e_reg (k_mov rfl (k_nil (e_reg (k_mov rfl (k_nil (wpE_seq (e_reg (k_mov rfl (k_len rfl (sv.any [] _ hx0) ?_)))))))));refine k_mov rfl (k_nil (wpE_block (gE fun σ1 e2=>?_)));have f3 : σ1 3 = V (.int .i64 ((0 : Int))):=(congrFun e2 3).trans rfl;have f4 : σ1 6 = .v (.c ((I vx0))):=(congrFun e2 6).trans rfl;have f5 : σ1 7 = V (.int .i64 ((List.length x0 : Int))):=(congrFun e2 7).trans rfl;have f6 : σ1 8 = V (.int .i64 ((0 : Int))):=(congrFun e2 8).trans rfl;obtain ⟨e7,h8,h⟩:=lret_e h;refine wpE_mono (e_loop h8 (I:=fun s σ' hp' _=>σ' 8 = V (.int .i64 s) ∧ Keep [2,5] 8 16 σ1 σ' ∧ [] = hp') (X:=fun e ex σ' hp' _=>match e with | .inl e=>ex = .exit 0 ∧ Keep [2,5] 8 16 σ1 σ' ∧ [] = hp' | .inr r=>ex = .ret ∧ ∀ ct,atEnd 18 [Res.tmp 2] (fin lent (P41 r)) .ret σ' hp' ct) ⟨f6,Keep.refl _ _ _ _,rfl⟩ ?_) ?_
 ·clear h
  rintro w9 o σ11 _ _ h ⟨f10,k13,rfl⟩;have h : uF41 x0 w9 = some o:=h; unfold uF41 at h;have f15:=(k13 3 rfl).trans f3;have f16:=(k13 6 rfl).trans f4;have f17:=(k13 7 rfl).trans f5;refine e_reg (k_bin f10 f17 rfl (k_nil (wpE_seq (wpE_cond (p:=(decide (w9 < ((List.length x0 : Int))))) rfl (fun g18=>?_) (fun g18=>?_)))))
  ·have h:=ctrue h g18
   refine wpE_skip (wpE_seq (wpE_block (e_reg ?_)));obtain ⟨y19,e20,h⟩:=obind h;refine k_iadrL f16 (sv.any [] _ hx0) f10 e20 rfl fun p21 c22 q23 h24=>?_;obtain rfl : c22 = [IV.int .i64 y19]:=h24;refine k_loadL rfl q23 rfl (k_mov rfl (k_nil (e_reg (k_mov rfl (k_mov f15 (k_bin rfl rfl rfl (k_nil (wpE_cond (p:=(y19 != ((0 : Int)))) rfl (fun g25=>?_) (fun g25=>?_)))))))))
   ·have h:=ctrue h g25
    refine e_reg (k_mov rfl (k_mov rfl (k_nil (wpE_ret ?_))));cases h
    exact ⟨by decide,rfl,fun _=>e_ret (ct:=0) (.tmp rfl (back_sc rfl) .nil) rfl⟩
   ·have h:=cfalse h g25
    refine wpE_skip (e_last (k_bin f10 rfl rfl (k_mov rfl (k_nil ?_))));cases h
    exact ⟨rfl,rfl,(by repeat (first | exact k13 | refine Keep.upd ?_ rfl _)),rfl⟩
  ·have h:=cfalse h g18
   refine wpE_exit ?_;cases h
   exact ⟨by decide,rfl,(by repeat (first | exact k13 | refine Keep.upd ?_ rfl _)),rfl⟩
 rcases e7 with _ | r1;rotate_left
 ·rintro _ _ _ _ ⟨rfl,hX⟩
  cases h
  exact hX 0
 rintro _ σ26 _ _ ⟨rfl,k28,rfl⟩;have f30:=(k28 3 rfl).trans f3;refine e_reg (k_mov f30 (k_mov rfl (k_nil (wpE_ret ?_))));cases h
 exact e_ret (ct:=0) (.tmp rfl (back_sc rfl) .nil) rfl
theorem s43 {x0 : List UInt8} {r : Int}  (h : uF43 x0 = some r) : pc L 43 [.c (I (.str x0))] true (P43 r):=by
 refine fn_pure (fn:=ir43) rfl (nlt rfl) fun lent hl=>?_;unfold uF43 at h;refine e_reg (k_mov rfl (k_nil (wpE_seq (e_reg (k_mov rfl ?_)))));obtain ⟨y1,e2,h⟩:=obind h;refine k_call (.cons rfl rfl (.cons rfl rfl (.cons rfl rfl .nil))) (s94  e2) (.inl rfl) ?_;rintro _ rfl;refine k_not rfl (k_nil (wpE_cond (p:=(!y1)) rfl (fun g4=>?_) (fun g4=>?_)))
 ·have h:=ctrue h g4
  refine e_reg (k_mov rfl (k_nil (wpE_ret ?_)));cases h
  exact e_ret (ct:=0) (.tmp rfl (back_sc rfl) .nil) rfl
 ·have h:=cfalse h g4
  refine wpE_skip (e_reg (k_mov rfl (k_nil (wpE_ret ?_))));cases h
  exact e_ret (ct:=0) (.tmp rfl (back_sc rfl) .nil) rfl
theorem s50 {x0 : List (List UInt8)} {vx0 : IV} {x1 : List (List UInt8)} {vx1 : IV} {r : Bool} (hx0 : sv Rep.str false vx0 x0) (hx1 : sv Rep.str false vx1 x1) (h : uF50 x0 x1 = some r) : pc L 50 [.c (I vx0),.c (I vx1)] true (P50 r):=by
 refine fn_pure (fn:=ir50) rfl (nlt rfl) fun lent hl=>?_;unfold uF50 at h;refine e_reg (k_mov rfl (k_nil (wpE_seq (e_reg (k_mov rfl (k_len rfl (sv.any [] _ hx0) (k_mov rfl (k_len rfl (sv.any [] _ hx1) (k_bin rfl rfl rfl ?_)))))))));refine k_nil (wpE_cond (p:=(((List.length x0 : Int)) != ((List.length x1 : Int)))) rfl (fun g1=>?_) (fun g1=>?_))
 ·have h:=ctrue h g1
  refine e_reg (k_mov rfl (k_nil (wpE_ret ?_)));cases h
  exact e_ret (ct:=0) (.tmp rfl (back_sc rfl) .nil) rfl
 ·have h:=cfalse h g1
  refine wpE_skip (wpE_seq (e_reg (k_mov rfl (k_len rfl (sv.any [] _ hx0) (k_mov rfl (k_nil (wpE_block (gE fun σ2 e3=>?_))))))));have f4 : σ2 0 = .v (.c ((I vx0))):=(congrFun e3 0).trans rfl;have f5 : σ2 1 = .v (.c ((I vx1))):=(congrFun e3 1).trans rfl;have f6 : σ2 12 = V (.int .i64 ((List.length x0 : Int))):=(congrFun e3 12).trans rfl;have f7 : σ2 13 = V (.int .i64 ((0 : Int))):=(congrFun e3 13).trans rfl;obtain ⟨e8,h9,h⟩:=lret_e h;refine wpE_mono (e_loop h9 (I:=fun s σ' hp' _=>σ' 13 = V (.int .i64 s) ∧ Keep [4,5] 13 25 σ2 σ' ∧ [] = hp') (X:=fun e ex σ' hp' _=>match e with | .inl e=>ex = .exit 0 ∧ Keep [4,5] 13 25 σ2 σ' ∧ [] = hp' | .inr r=>ex = .ret ∧ ∀ ct,atEnd 26 [Res.tmp 4] (fin lent (P50 r)) .ret σ' hp' ct) ⟨f7,Keep.refl _ _ _ _,rfl⟩ ?_) ?_
  ·clear h
   rintro w10 o σ12 _ _ h ⟨f11,k14,rfl⟩;have h : uF50a x0 x1 w10 = some o:=h; unfold uF50a at h;have f16:=(k14 0 rfl).trans f4;have f17:=(k14 1 rfl).trans f5;have f18:=(k14 12 rfl).trans f6;refine e_reg (k_bin f11 f18 rfl (k_nil (wpE_seq (wpE_cond (p:=(decide (w10 < ((List.length x0 : Int))))) rfl (fun g19=>?_) (fun g19=>?_)))))
   ·have h:=ctrue h g19
    refine wpE_skip (wpE_seq (wpE_block (e_reg (k_mov f11 (k_mov rfl (k_nil (e_regD (by kernel_rfl) (by kernel_rfl) (k_mov f16 (k_mov rfl ?_)))))))));obtain ⟨y20,e21,h⟩:=obind h;refine k_iadrL rfl (sv.any [] _ hx0) rfl e21 rfl fun p22 c23 q24 h25=>?_;obtain rfl : c23 = [IV.str y20]:=h25;refine k_loadL rfl q24 rfl (k_mov f17 (k_mov rfl ?_));obtain ⟨y26,e27,h⟩:=obind h;refine k_iadrL rfl (sv.any [] _ hx1) rfl e27 rfl fun p28 c29 q30 h31=>?_;obtain rfl : c29 = [IV.str y26]:=h31;refine k_loadL rfl q30 rfl (k_bin rfl rfl rfl (k_nil (wpE_cond (p:=(!(y20 == y26))) rfl (fun g32=>?_) (fun g32=>?_))))
    ·have h:=ctrue h g32
     refine e_reg (k_mov rfl (k_nil (wpE_ret ?_)));cases h
     exact ⟨by decide,rfl,fun _=>e_ret (ct:=0) (.tmp rfl (back_sc rfl) .nil) rfl⟩
    ·have h:=cfalse h g32
     refine wpE_skip (e_last (k_bin f11 rfl rfl (k_mov rfl (k_nil ?_))));cases h
     exact ⟨rfl,rfl,(by repeat (first | exact k14 | refine Keep.upd ?_ rfl _)),rfl⟩
   ·have h:=cfalse h g19
    refine wpE_exit ?_;cases h
    exact ⟨by decide,rfl,(by repeat (first | exact k14 | refine Keep.upd ?_ rfl _)),rfl⟩
  rcases e8 with _ | r1;rotate_left
  ·rintro _ _ _ _ ⟨rfl,hX⟩
   cases h
   exact hX 0
  rintro _ σ33 _ _ ⟨rfl,k35,rfl⟩;refine e_reg (k_mov rfl (k_nil (wpE_ret ?_)));cases h
  exact e_ret (ct:=0) (.tmp rfl (back_sc rfl) .nil) rfl
theorem s52 {st : uT0} {c : List IV} {x1 : List UInt8} {x2 : List UInt8} {r : uT0 × List UInt8} (hs : uR0.rp false c st) (h : uF52 st x1 x2 = some r) : meth L 52 c [.c (I (.str x1)),.c (I (.str x2))] (P52 r):=by
 refine fn_meth (fn:=ir52) rfl (nlt rfl) fun hp0 k0=>?_;unfold uF52 at h;obtain ⟨v1,rfl,q2⟩:=uR0.inv hs;refine e_reg (k_mov rfl ?_);obtain ⟨u3,e4,h⟩:=bnd_e h;refine k_nil (wpE_seq (e_reg (k_mov rfl (k_bin rfl rfl rfl (k_mov rfl (gL fun σ5 e6=>?_))))));have f7 : σ5 0 = .v (.c (.r (.ptr PB 0 0))):=(congrFun e6 0).trans rfl;have f8 : σ5 1 = V (.str x1):=(congrFun e6 1).trans rfl;have f9 : σ5 2 = V (.str x2):=(congrFun e6 2).trans rfl;have f10 : σ5 11 = V (.bool ((x1 == (([] : List UInt8))))):=(congrFun e6 11).trans rfl;refine k_mid (fun σ' hp' _=>hp0 = hp' ∧ σ' 14 = V (.bool (((x1 == (([] : List UInt8))) || (x2 == (([] : List UInt8)))))) ∧ Keep [] 12 14 σ5 σ') ?_ ?_
 ·rcases bt ((x1 == (([] : List UInt8)))) with g11 | g11
  ·refine k_no (f10.trans (cgB g11)) rfl ?_
   refine k_no (f10.trans (cgB g11)) rfl (k_pickT (f10.trans (cgB g11)) rfl ?_);exact ⟨rfl,cgB (by rw [g11]; rfl),(by repeat (first | exact (Keep.refl _ _ _ _) | refine Keep.upd ?_ rfl _))⟩
  ·refine k_yes (f10.trans (cgB g11)) ?_
   refine k_mov f9 (k_yes (f10.trans (cgB g11)) (k_bin rfl rfl rfl (k_pickF (f10.trans (cgB g11)) rfl ?_)));exact ⟨rfl,cgB (by rw [g11]; rfl),(by repeat (first | exact (Keep.refl _ _ _ _) | refine Keep.upd ?_ rfl _))⟩
 rintro σ12 _ _ ⟨rfl,f14,k13⟩;have f15:=(k13 0 rfl).trans f7;have f16:=(k13 1 rfl).trans f8;have f17:=(k13 2 rfl).trans f9;refine k_nil (wpE_cond (p:=((x1 == (([] : List UInt8))) || (x2 == (([] : List UInt8))))) f14 (fun g18=>?_) (fun g18=>?_))
 ·have h:=ctrue h g18
  refine e_reg (k_mov f17 (k_mov rfl (k_nil (wpE_ret ?_))));cases h
  exact e_retM (ct:=0) (cells':=[v1,IV.int .i64 st.at_]) k0 (fun b g=>(.cons (backC_inl fun q=>nomatch q) (.cons (backC_inl fun q=>nomatch q) .nil))) (fun b g=>(.tmp rfl (back_sc rfl) .nil)) ⟨rfl,(uR0.mk q2)⟩
 ·have h:=cfalse h g18
  refine wpE_skip (e_reg (k_mov f15 (k_mov f16 (k_lenS rfl ?_))));obtain ⟨y19,e20,h⟩:=obind h;refine k_meth (cells:=[v1,IV.int .i64 st.at_]) rfl k0 (.cons rfl rfl .nil) rfl (s63  (uR0.retag (f:=false) (c:=[v1,IV.int .i64 st.at_]) (uR0.mk q2)) e20) fun v21 c22 hp23 h24 k25 r26=>?_;obtain ⟨rfl,h27⟩:=h24;obtain ⟨v28,rfl,q29⟩:=uR0.inv h27;refine k_mov rfl (k_nil (e_reg (k_mov f17 (k_mov f15 (k_mov f17 (k_lenS rfl ?_))))));obtain ⟨y30,e31,h⟩:=obind h;refine k_meth (cells:=[v28,IV.int .i64 y19.1.at_]) rfl k25 (.cons rfl rfl .nil) rfl (s63  (uR0.retag (f:=false) (c:=[v28,IV.int .i64 y19.1.at_]) (uR0.mk q29)) e31) fun v32 c33 hp34 h35 k36 r37=>?_;obtain ⟨rfl,h38⟩:=h35;obtain ⟨v39,rfl,q40⟩:=uR0.inv h38;obtain ⟨y41,e42,h⟩:=obind h;refine k_idxS rfl rfl e42 (k_mov rfl ?_);obtain ⟨u43,e44,h⟩:=bnd_e h;refine k_nil (wpE_seq (e_reg (k_mov f15 ?_)));obtain ⟨y45,e46,h⟩:=obind h;refine k_meth (cells:=[v39,IV.int .i64 y30.1.at_]) rfl k36 (.cons rfl rfl .nil) rfl (s63  (uR0.retag (f:=false) (c:=[v39,IV.int .i64 y30.1.at_]) (uR0.mk q40)) e46) fun v47 c48 hp49 h50 k51 r52=>?_;obtain ⟨rfl,h53⟩:=h50;obtain ⟨v54,rfl,q55⟩:=uR0.inv h53;refine k_nil (wpE_block (e_reg (k_bin rfl rfl rfl (k_mov rfl ?_))));obtain ⟨u56,e57,h⟩:=bnd_e h
  refine k_nil (wpE_cond (p:=u56) (cgB e57) (fun g58=>?_) (fun g58=>?_))
  ·have h:=ctrue h g58
   refine e_regD (by kernel_rfl) (by kernel_rfl) (k_mov f16 (k_mov rfl ?_));obtain ⟨y59,e60,h⟩:=obind h;refine k_slcT rfl .none (.some rfl) e60 (k_mov (cgI e44) (k_cvI rfl (k_cvIS rfl ?_)));obtain ⟨y61,e62,h⟩:=obind h;refine k_sadd rfl rfl e62 (k_mov f16 (k_mov rfl (k_bin rfl rfl rfl ?_)));obtain ⟨y63,e64,h⟩:=obind h;refine k_slcT rfl (.some rfl) .none e64 ?_;obtain ⟨y65,e66,h⟩:=obind h;refine k_sadd rfl rfl e66 (k_mov rfl (k_nil (wpE_ret ?_)));cases h
   exact e_retM (ct:=0) (cells':=[v54,IV.int .i64 y45.1.at_]) k51 (fun b g=>(.cons (backC_inl fun q=>nomatch q) (.cons (backC_inl fun q=>nomatch q) .nil))) (fun b g=>(.tmp rfl (back_sc rfl) .nil)) ⟨rfl,(uR0.mk q55)⟩
  ·have h:=cfalse h g58
   refine e_reg (k_bin rfl rfl rfl (k_mov rfl ?_));obtain ⟨u67,e68,h⟩:=bnd_e h;refine k_nil (wpE_cond (p:=u67) (cgB e68) (fun g69=>?_) (fun g69=>?_))
   ·have h:=ctrue h g69
    refine e_regD (by kernel_rfl) (by kernel_rfl) (k_mov f16 (k_mov rfl ?_));obtain ⟨y70,e71,h⟩:=obind h;refine k_slcT rfl .none (.some rfl) e71 (k_mov (cgI e44) (k_cvI rfl (k_cvIS rfl ?_)));obtain ⟨y72,e73,h⟩:=obind h;refine k_sadd rfl rfl e73 (k_mov f16 (k_mov rfl ?_));obtain ⟨y74,e75,h⟩:=obind h;refine k_slcT rfl (.some rfl) .none e75 ?_;obtain ⟨y76,e77,h⟩:=obind h;refine k_sadd rfl rfl e77 (k_mov rfl (k_nil (wpE_ret ?_)));cases h
    exact e_retM (ct:=0) (cells':=[v54,IV.int .i64 y45.1.at_]) k51 (fun b g=>(.cons (backC_inl fun q=>nomatch q) (.cons (backC_inl fun q=>nomatch q) .nil))) (fun b g=>(.tmp rfl (back_sc rfl) .nil)) ⟨rfl,(uR0.mk q55)⟩
   ·have h:=cfalse h g69
    refine wpE_skip (e_regD (by kernel_rfl) (by kernel_rfl) (k_mov f16 (k_mov rfl ?_)));obtain ⟨y78,e79,h⟩:=obind h;refine k_slcT rfl .none (.some rfl) e79 (k_mov f16 (k_mov rfl (k_bin rfl rfl rfl ?_)));obtain ⟨y80,e81,h⟩:=obind h;refine k_slcT rfl (.some rfl) .none e81 ?_;obtain ⟨y82,e83,h⟩:=obind h;refine k_sadd rfl rfl e83 (k_mov rfl (k_nil (wpE_ret ?_)));cases h
    exact e_retM (ct:=0) (cells':=[v54,IV.int .i64 y45.1.at_]) k51 (fun b g=>(.cons (backC_inl fun q=>nomatch q) (.cons (backC_inl fun q=>nomatch q) .nil))) (fun b g=>(.tmp rfl (back_sc rfl) .nil)) ⟨rfl,(uR0.mk q55)⟩
theorem s166 {x0 : List UInt8} {r : Bool}  (h : uF166 x0 = some r) : pc L 166 [.c (I (.str x0))] true (P166 r):=by
 refine fn_pure (fn:=ir166) rfl (nlt rfl) fun lent hl=>?_;unfold uF166 at h;refine e_reg (k_mov rfl (k_nil (e_reg (k_mov rfl ?_))));obtain ⟨y1,e2,h⟩:=obind h;refine k_call (.cons rfl rfl (.cons rfl rfl .nil)) (s160  e2) (.inl rfl) ?_;rintro _ rfl;refine k_bin rfl rfl rfl (k_mov rfl ?_);obtain ⟨u4,e5,h⟩:=bnd_e h;refine k_nil (wpE_ret ?_);cases h
 exact e_ret (ct:=0) (.tmp (cgB e5) (back_sc rfl) .nil) rfl
theorem s105 {x0 : List UInt8} {x1 : Int} {x2 : Int} {r : Bool}  (h : uF105 x0 x1 x2 = some r) : pc L 105 [.c (I (.str x0)),.c (I (.int .i64 x1)),.c (I (.int .i64 x2))] true (P105 r):=by
 refine fn_pure (fn:=ir105) rfl (nlt rfl) fun lent hl=>?_;unfold uF105 at h;refine e_reg (k_mov rfl (k_nil (e_reg (k_mov rfl (k_lenS rfl (k_mov rfl (k_bin rfl rfl rfl (k_mov rfl (gL fun σ1 e2=>?_)))))))));have f3 : σ1 0 = V (.str x0):=(congrFun e2 0).trans rfl;have f4 : σ1 2 = V (.int .i64 x2):=(congrFun e2 2).trans rfl;have f5 : σ1 11 = V (.bool ((decide (((List.length x0 : Int)) ≥ x1)))):=(congrFun e2 11).trans rfl;refine k_mid (fun σ' hp' _=>[] = hp' ∧ σ' 16 = V (.bool (((decide (((List.length x0 : Int)) ≥ x1)) && (decide (((List.length x0 : Int)) ≤ x2))))) ∧ Keep [] 12 16 σ1 σ') ?_ ?_
 ·rcases bt ((decide (((List.length x0 : Int)) ≥ x1))) with g6 | g6
  ·refine k_yes (f5.trans (cgB g6)) ?_
   refine k_mov f3 (k_yes (f5.trans (cgB g6)) (k_lenS rfl (k_yes (f5.trans (cgB g6)) (k_mov f4 (k_yes (f5.trans (cgB g6)) (k_bin rfl rfl rfl (k_pickT (f5.trans (cgB g6)) rfl ?_)))))));exact ⟨rfl,cgB (by rw [g6]; rfl),(by repeat (first | exact (Keep.refl _ _ _ _) | refine Keep.upd ?_ rfl _))⟩
  ·refine k_no (f5.trans (cgB g6)) rfl ?_
   refine k_no (f5.trans (cgB g6)) rfl (k_no (f5.trans (cgB g6)) rfl (k_no (f5.trans (cgB g6)) rfl (k_pickF (f5.trans (cgB g6)) rfl ?_)));exact ⟨rfl,cgB (by rw [g6]; rfl),(by repeat (first | exact (Keep.refl _ _ _ _) | refine Keep.upd ?_ rfl _))⟩
 rintro σ7 _ _ ⟨rfl,f9,k8⟩;have f10:=(k8 0 rfl).trans f3;refine k_mov f9 (gL fun σ11 e12=>?_);have f13:=(congrFun e12 0).trans f10;have f14 : σ11 17 = V (.bool (((decide (((List.length x0 : Int)) ≥ x1)) && (decide (((List.length x0 : Int)) ≤ x2))))):=(congrFun e12 17).trans rfl;obtain ⟨y19,e20,h⟩:=obind h;refine k_mid (fun σ' hp' _=>[] = hp' ∧ σ' 20 = V (.bool y19) ∧ Keep [] 18 20 σ11 σ') ?_ ?_
 ·rcases bt (((decide (((List.length x0 : Int)) ≥ x1)) && (decide (((List.length x0 : Int)) ≤ x2)))) with g15 | g15
  ·have h:=ctrue e20 g15
   refine k_yes (f14.trans (cgB g15)) (k_mov f13 (k_yes (f14.trans (cgB g15)) ?_));obtain ⟨y16,e17,h⟩:=obind h;refine k_call (.cons rfl rfl .nil) (s166  e17) (.inl rfl) ?_;rintro _ rfl;refine k_pickT (f14.trans (cgB g15)) rfl ?_;exact ⟨rfl,cgB (Option.some.inj h),(by repeat (first | exact (Keep.refl _ _ _ _) | refine Keep.upd ?_ rfl _))⟩
  ·have h:=cfalse e20 g15
   refine k_no (f14.trans (cgB g15)) rfl (k_no (f14.trans (cgB g15)) rfl (k_pickF (f14.trans (cgB g15)) rfl ?_));exact ⟨rfl,cgB (Option.some.inj h),(by repeat (first | exact (Keep.refl _ _ _ _) | refine Keep.upd ?_ rfl _))⟩
 rintro σ21 _ _ ⟨rfl,f23,k22⟩;refine k_mov f23 (k_nil (wpE_ret ?_));cases h
 exact e_ret (ct:=0) (.tmp rfl (back_sc rfl) .nil) rfl
theorem s115 {x0 : List UInt8} {x1 : Int} {r : List UInt8}  (h : uF115 x0 x1 = some r) : pc L 115 [.c (I (.str x0)),.c (I (.int .i64 x1))] true (P115 r):=by
 refine fn_pure (fn:=ir115) rfl (nlt rfl) fun lent hl=>?_;unfold uF115 at h;refine e_reg (k_mov rfl ?_);obtain ⟨u1,e2,h⟩:=bnd_e h;refine k_nil (e_regD (by kernel_rfl) (by kernel_rfl) (k_mov rfl (k_mov rfl ?_)));obtain ⟨y3,e4,h⟩:=obind h;refine k_slcT rfl .none (.some rfl) e4 (k_mov rfl (k_mov rfl (k_bin rfl rfl rfl (k_mov rfl (k_bin rfl rfl rfl ?_)))));obtain ⟨y5,e6,h⟩:=obind h;refine k_slcT rfl (.some rfl) (.some rfl) e6 ?_;obtain ⟨y7,e8,h⟩:=obind h;refine k_sadd rfl rfl e8 (k_mov rfl (k_mov rfl (k_mov rfl (k_bin rfl rfl rfl ?_))));obtain ⟨y9,e10,h⟩:=obind h;refine k_slcT rfl (.some rfl) (.some rfl) e10 ?_;obtain ⟨y11,e12,h⟩:=obind h;refine k_sadd rfl rfl e12 (k_mov rfl (k_mov rfl (k_bin rfl rfl rfl ?_)));obtain ⟨y13,e14,h⟩:=obind h;refine k_slcT rfl (.some rfl) .none e14 ?_;obtain ⟨y15,e16,h⟩:=obind h;refine k_sadd rfl rfl e16 (k_mov rfl (k_nil (wpE_ret ?_)));cases h
 exact e_ret (ct:=0) (.tmp rfl (back_sc rfl) .nil) rfl
theorem s119 {x0 : List UInt8} {x1 : Int} {r : List UInt8}  (h : uF119 x0 x1 = some r) : pc L 119 [.c (I (.str x0)),.c (I (.int .i64 x1))] true (P119 r):=by
 refine fn_pure (fn:=ir119) rfl (nlt rfl) fun lent hl=>?_;unfold uF119 at h;refine e_reg (k_mov rfl ?_);obtain ⟨u1,e2,h⟩:=bnd_e h;refine k_nil (e_regD (by kernel_rfl) (by kernel_rfl) (k_mov rfl (k_mov rfl ?_)));obtain ⟨y3,e4,h⟩:=obind h;refine k_slcT rfl .none (.some rfl) e4 (k_mov rfl (k_mov rfl (k_bin rfl rfl rfl ?_)));obtain ⟨y5,e6,h⟩:=obind h;refine k_slcT rfl (.some rfl) .none e6 ?_;obtain ⟨y7,e8,h⟩:=obind h;refine k_sadd rfl rfl e8 (k_mov rfl (k_nil (wpE_ret ?_)));cases h
 exact e_ret (ct:=0) (.tmp rfl (back_sc rfl) .nil) rfl
theorem s116 {x0 : List UInt8} {x1 : List UInt8} {r : Bool}  (h : uF116 x0 x1 = some r) : pc L 116 [.c (I (.str x0)),.c (I (.str x1))] true (P116 r):=by
 refine fn_pure (fn:=ir116) rfl (nlt rfl) fun lent hl=>?_;unfold uF116 at h;refine e_reg (k_mov rfl (k_nil (wpE_seq (e_reg (k_mov rfl (k_lenS rfl (k_mov rfl (k_nil (wpE_block ?_)))))))));refine gE fun σ1 e2=>?_;have f3 : σ1 0 = V (.str x0):=(congrFun e2 0).trans rfl;have f4 : σ1 1 = V (.str x1):=(congrFun e2 1).trans rfl;have f5 : σ1 7 = V (.int .i64 ((List.length x0 : Int))):=(congrFun e2 7).trans rfl;have f6 : σ1 8 = V (.int .i64 ((0 : Int))):=(congrFun e2 8).trans rfl;obtain ⟨e7,h8,h⟩:=lret_e h;refine wpE_mono (e_loop h8 (I:=fun s σ' hp' _=>σ' 8 = V (.int .i64 s) ∧ Keep [4,5] 8 16 σ1 σ' ∧ [] = hp') (X:=fun e ex σ' hp' _=>match e with | .inl e=>ex = .exit 0 ∧ Keep [4,5] 8 16 σ1 σ' ∧ [] = hp' | .inr r=>ex = .ret ∧ ∀ ct,atEnd 17 [Res.tmp 4] (fin lent (P116 r)) .ret σ' hp' ct) ⟨f6,Keep.refl _ _ _ _,rfl⟩ ?_) ?_
 ·clear h
  rintro w9 o σ11 _ _ h ⟨f10,k13,rfl⟩;have h : uF116a x0 x1 w9 = some o:=h; unfold uF116a at h;have f15:=(k13 0 rfl).trans f3;have f16:=(k13 1 rfl).trans f4;have f17:=(k13 7 rfl).trans f5;refine e_reg (k_bin f10 f17 rfl (k_nil (wpE_seq (wpE_cond (p:=(decide (w9 < ((List.length x0 : Int))))) rfl (fun g18=>?_) (fun g18=>?_)))))
  ·have h:=ctrue h g18
   refine wpE_skip (wpE_seq (wpE_block (e_reg (k_mov f10 (k_mov rfl (k_nil (e_reg (k_mov f15 (k_mov rfl ?_)))))))));obtain ⟨y19,e20,h⟩:=obind h;refine k_call (.cons rfl rfl (.cons rfl rfl .nil)) (s119  e20) (.inl rfl) ?_;rintro _ rfl;refine k_mov f16 (k_bin rfl rfl rfl (k_nil (wpE_cond (p:=(y19 == x1)) rfl (fun g22=>?_) (fun g22=>?_))))
   ·have h:=ctrue h g22
    refine e_reg (k_mov rfl (k_nil (wpE_ret ?_)));cases h
    exact ⟨by decide,rfl,fun _=>e_ret (ct:=0) (.tmp rfl (back_sc rfl) .nil) rfl⟩
   ·have h:=cfalse h g22
    refine wpE_skip (e_last (k_bin f10 rfl rfl (k_mov rfl (k_nil ?_))));cases h
    exact ⟨rfl,rfl,(by repeat (first | exact k13 | refine Keep.upd ?_ rfl _)),rfl⟩
  ·have h:=cfalse h g18
   refine wpE_exit ?_;cases h
   exact ⟨by decide,rfl,(by repeat (first | exact k13 | refine Keep.upd ?_ rfl _)),rfl⟩
 rcases e7 with _ | r1;rotate_left
 ·rintro _ _ _ _ ⟨rfl,hX⟩
  cases h
  exact hX 0
 rintro _ σ23 _ _ ⟨rfl,k25,rfl⟩;refine e_reg (k_mov rfl (k_nil (wpE_ret ?_)));cases h
 exact e_ret (ct:=0) (.tmp rfl (back_sc rfl) .nil) rfl
end Go.Proofs.YtoclmbbfdokbhaaGreatDoor
