/-
 The small code of functions comes to the Lean functions. Printed by a program of mine.
-/
import Derived.Test.YtagbgmkocjfanaaGreatDoorHM7Sa
namespace Go.Proofs.YtagbgmkocjfanaaGreatDoor
open Go Go.Abs
set_option maxRecDepth 100000
set_option maxHeartbeats 8000000
theorem s36 {x0 : List uT2} {vx0 : IV} {x1 : (uT2 → Option Bool)} {fx1 : Nat} {kx1 : List IV} {r : Int} (hx0 : sv uR2 false vx0 x0) (hx1 : CK99 L fx1 kx1 x1) (h : uF36 x0 x1 = some r) : pc L 36 [.c (I vx0),.c (I (.clo fx1 kx1))] true (P36 r):=by
 refine fn_pure (fn:=ir36) rfl (nlt rfl) fun lent hl=>?_;unfold uF36 at h;refine e_reg (k_mov rfl (k_nil (wpE_seq (e_reg (k_mov rfl (k_len rfl (sv.any [] _ hx0) (k_mov rfl (k_nil (wpE_block ?_)))))))));refine gE fun σ1 e2=>?_;have f3 : σ1 0 = .v (.c ((I vx0))):=(congrFun e2 0).trans rfl;have f4 : σ1 1 = .v (.c (I (.clo fx1 kx1))):=(congrFun e2 1).trans rfl;have f5 : σ1 7 = V (.int .i64 ((List.length x0 : Int))):=(congrFun e2 7).trans rfl;have f6 : σ1 8 = V (.int .i64 ((0 : Int))):=(congrFun e2 8).trans rfl;obtain ⟨e7,h8,h⟩:=lret_e h;refine wpE_mono (e_loop h8 (I:=fun s σ' hp' _=>σ' 8 = V (.int .i64 s) ∧ Keep [4,5] 8 18 σ1 σ' ∧ [] = hp') (X:=fun e ex σ' hp' _=>match e with | .inl e=>ex = .exit 0 ∧ Keep [4,5] 8 18 σ1 σ' ∧ [] = hp' | .inr r=>ex = .ret ∧ ∀ ct,atEnd 19 [Res.tmp 4] (fin lent (P36 r)) .ret σ' hp' ct) ⟨f6,Keep.refl _ _ _ _,rfl⟩ ?_) ?_
 ·clear h
  rintro w9 o σ11 _ _ h ⟨f10,k13,rfl⟩;have h : uF36a x0 x1 w9 = some o:=h; unfold uF36a at h;have f15:=(k13 0 rfl).trans f3;have f16:=(k13 1 rfl).trans f4;have f17:=(k13 7 rfl).trans f5;refine e_reg (k_bin f10 f17 rfl (k_nil (wpE_seq (wpE_cond (p:=(decide (w9 < ((List.length x0 : Int))))) rfl (fun g18=>?_) (fun g18=>?_)))))
  ·have h:=ctrue h g18
   refine wpE_skip (wpE_seq (wpE_block (e_reg (k_mov f10 (k_mov rfl (k_nil (e_reg (k_mov f16 (k_mov f15 ?_)))))))));refine k_mov rfl ?_;obtain ⟨y19,e20,h⟩:=obind h;refine k_iadrL rfl (sv.any [] _ hx0) rfl e20 rfl fun p21 c22 q23 h24=>?_;obtain ⟨v25,v27,rfl,q26,q28⟩:=uR2.inv h24;refine k_loadL rfl q23 rfl ?_;obtain ⟨y29,e30,h⟩:=obind h;refine k_callv rfl (.cons rfl rfl .nil) (hx1 _ _ (uR2.mk (sv_retag q26) (sv_retag q28)) _ e30) (.inl rfl) ?_;rintro _ rfl;refine k_nil (wpE_cond (p:=y29) rfl (fun g31=>?_) (fun g31=>?_))
   ·have h:=ctrue h g31
    refine e_reg (k_mov rfl (k_mov rfl (k_nil (wpE_ret ?_))));cases h
    exact ⟨by decide,rfl,fun _=>e_ret (ct:=0) (.tmp rfl (back_sc rfl) .nil) rfl⟩
   ·have h:=cfalse h g31
    refine wpE_skip (e_last (k_bin f10 rfl rfl (k_mov rfl (k_nil ?_))));cases h
    exact ⟨rfl,rfl,(by repeat (first | exact k13 | refine Keep.upd ?_ rfl _)),rfl⟩
  ·have h:=cfalse h g18
   refine wpE_exit ?_;cases h
   exact ⟨by decide,rfl,(by repeat (first | exact k13 | refine Keep.upd ?_ rfl _)),rfl⟩
 rcases e7 with _ | r1;rotate_left
 ·rintro _ _ _ _ ⟨rfl,hX⟩
  cases h
  exact hX 0
 rintro _ σ32 _ _ ⟨rfl,k34,rfl⟩;refine e_reg (k_mov rfl (k_nil (wpE_ret ?_)));cases h
 exact e_ret (ct:=0) (.tmp rfl (back_sc rfl) .nil) rfl
theorem s197 {x0 : uT2} {cx0 : List IV} {x1 : List UInt8} {r : Bool} (hx0 : uR2.rp false cx0 x0) (h : uF197 x0 x1 = some r) : pc L 197 [.agg (cx0.map I),.c (I (.lp 1 [IV.str x1]))] true (P197 r):=by
 refine fn_pure (fn:=ir197) rfl (nlt rfl) fun lent hl=>?_;unfold uF197 at h;obtain ⟨v1,v3,rfl,q2,q4⟩:=uR2.inv hx0;refine e_reg (k_box rfl rfl fun g5 hp6 k7 r8=>?_);refine k_mov rfl (k_nil (e_reg (k_fadrB (o:=0) rfl k7 (k_loadB rfl k7 rfl (k_loadL rfl (ep_lp 1 [IV.str x1]) rfl (k_bin rfl rfl rfl (k_mov rfl ?_)))))));obtain ⟨u9,e10,h⟩:=bnd_e h;refine k_nil (wpE_ret ?_);cases h
 exact e_ret (ct:=0) (.tmp (cgB e10) (back_sc rfl) .nil) rfl
theorem s148 {x0 : uT3} {cx0 : List IV} {x1 : List UInt8} {r : Int} (hx0 : uR3.rp false cx0 x0) (h : uF148 x0 x1 = some r) : pc L 148 [.agg (cx0.map I),.c (I (.str x1))] true (P148 r):=by
 refine fn_pure (fn:=ir148) rfl (nlt rfl) fun lent hl=>?_;unfold uF148 at h;obtain ⟨v1,v3,rfl,q2,q4⟩:=uR3.inv hx0;refine e_reg (k_box rfl rfl fun g5 hp6 k7 r8=>?_);refine k_box rfl rfl fun g9 hp10 k11 r12=>?_;have k13:=(r12 2 (by decide)).trans k7;refine k_mov rfl (k_nil (e_reg (k_fadrB (o:=0) rfl k13 (k_loadB rfl k13 rfl (k_mkfn (f:=197) (.cons rfl rfl .nil) ?_)))));obtain ⟨y14,e15,h⟩:=obind h;refine k_call (.cons rfl rfl (.cons rfl (lend_clo (.ptr (cs:=[IV.str x1]) k11 .nil)) .nil)) (s36 (sv_retag q2) (show CK99 L 197 [(.lp 1 [IV.str x1])] (fun a0=>uF197 a0 x1) from fun a0 b0 q0 r h=>s197 q0 h) e15) (.inl rfl) ?_;rintro _ rfl;refine k_mov rfl (k_nil (wpE_ret ?_));cases h
 exact e_ret (ct:=0) (.tmp rfl (back_sc rfl) .nil) rfl
theorem s132 {x0 x1 : List UInt8} {r : List UInt8} (h : uF132 x0 x1 = some r) : pc L 132 [.c (I (.str x0)),.c (I (.str x1))] true (P132 r):=by
 unfold uF132 at h;split at h
 ·rename_i hk
  cases h
  intro lent _;refine ⟨[.c (I (.str _))],?_,rfl⟩;unfold pureCall;rw [show L 132 _ [] = some ([.c (I (.str (Lib.trimS x0 x1)))],[]) from lim_x rfl _ _ (by show (if trimOk x0 x1 then _ else _) = _; rw [if_pos hk])];cases lent <;> rfl
 ·simp at h
theorem s69 {x0 : List UInt8} {r : Bool}  (h : uF69 x0 = some r) : pc L 69 [.c (I (.str x0))] true (P69 r):=by
 refine fn_pure (fn:=ir69) rfl (nlt rfl) fun lent hl=>?_;unfold uF69 at h;refine e_reg (k_mov rfl (k_nil (e_reg (k_mov rfl (k_lenS rfl (k_bin rfl rfl rfl (k_mov rfl (gL fun σ1 e2=>?_))))))));have f3 : σ1 0 = V (.str x0):=(congrFun e2 0).trans rfl;have f4 : σ1 6 = V (.bool ((decide (((List.length x0 : Int)) ≥ ((1 : Int)))))):=(congrFun e2 6).trans rfl;refine k_mid (fun σ' hp' _=>[] = hp' ∧ σ' 10 = V (.bool (((decide (((List.length x0 : Int)) ≥ ((1 : Int)))) && (decide (((List.length x0 : Int)) ≤ ((40 : Int))))))) ∧ Keep [] 7 10 σ1 σ') ?_ ?_
 ·rcases bt ((decide (((List.length x0 : Int)) ≥ ((1 : Int))))) with g5 | g5
  ·refine k_yes (f4.trans (cgB g5)) ?_
   refine k_mov f3 (k_yes (f4.trans (cgB g5)) (k_lenS rfl (k_yes (f4.trans (cgB g5)) (k_bin rfl rfl rfl (k_pickT (f4.trans (cgB g5)) rfl ?_)))));exact ⟨rfl,cgB (by rw [g5]; rfl),(by repeat (first | exact (Keep.refl _ _ _ _) | refine Keep.upd ?_ rfl _))⟩
  ·refine k_no (f4.trans (cgB g5)) rfl ?_
   refine k_no (f4.trans (cgB g5)) rfl (k_no (f4.trans (cgB g5)) rfl (k_pickF (f4.trans (cgB g5)) rfl ?_));exact ⟨rfl,cgB (by rw [g5]; rfl),(by repeat (first | exact (Keep.refl _ _ _ _) | refine Keep.upd ?_ rfl _))⟩
 rintro σ6 _ _ ⟨rfl,f8,k7⟩;have f9:=(k7 0 rfl).trans f3;refine k_mov f8 (gL fun σ10 e11=>?_);have f12:=(congrFun e11 0).trans f9;have f13 : σ10 11 = V (.bool (((decide (((List.length x0 : Int)) ≥ ((1 : Int)))) && (decide (((List.length x0 : Int)) ≤ ((40 : Int))))))):=(congrFun e11 11).trans rfl;obtain ⟨y17,e18,h⟩:=obind h;refine k_mid (fun σ' hp' _=>[] = hp' ∧ σ' 15 = V (.bool y17) ∧ Keep [] 12 15 σ10 σ') ?_ ?_
 ·rcases bt (((decide (((List.length x0 : Int)) ≥ ((1 : Int)))) && (decide (((List.length x0 : Int)) ≤ ((40 : Int)))))) with g14 | g14
  ·have h:=ctrue e18 g14
   refine k_yes (f13.trans (cgB g14)) (k_mov f12 (k_yes (f13.trans (cgB g14)) ?_));obtain ⟨y15,e16,h⟩:=obind h;refine k_idxS rfl rfl e16 (k_yes (f13.trans (cgB g14)) (k_bin rfl rfl rfl (k_pickT (f13.trans (cgB g14)) rfl ?_)));exact ⟨rfl,cgB (Option.some.inj h),(by repeat (first | exact (Keep.refl _ _ _ _) | refine Keep.upd ?_ rfl _))⟩
  ·have h:=cfalse e18 g14
   refine k_no (f13.trans (cgB g14)) rfl (k_no (f13.trans (cgB g14)) rfl (k_no (f13.trans (cgB g14)) rfl (k_pickF (f13.trans (cgB g14)) rfl ?_)));exact ⟨rfl,cgB (Option.some.inj h),(by repeat (first | exact (Keep.refl _ _ _ _) | refine Keep.upd ?_ rfl _))⟩
 rintro σ19 _ _ ⟨rfl,f21,k20⟩;have f22:=(k20 0 rfl).trans f12;refine k_mov f21 (gL fun σ23 e24=>?_);have f25:=(congrFun e24 0).trans f22;have f26 : σ23 16 = V (.bool y17):=(congrFun e24 16).trans rfl;obtain ⟨y30,e31,h⟩:=obind h;refine k_mid (fun σ' hp' _=>[] = hp' ∧ σ' 20 = V (.bool y30) ∧ Keep [] 17 20 σ23 σ') ?_ ?_
 ·rcases bt y17 with g27 | g27
  ·have h:=ctrue e31 g27
   refine k_yes (f26.trans (cgB g27)) (k_mov f25 (k_yes (f26.trans (cgB g27)) ?_));obtain ⟨y28,e29,h⟩:=obind h;refine k_idxS rfl rfl e29 (k_yes (f26.trans (cgB g27)) (k_bin rfl rfl rfl (k_pickT (f26.trans (cgB g27)) rfl ?_)));exact ⟨rfl,cgB (Option.some.inj h),(by repeat (first | exact (Keep.refl _ _ _ _) | refine Keep.upd ?_ rfl _))⟩
  ·have h:=cfalse e31 g27
   refine k_no (f26.trans (cgB g27)) rfl (k_no (f26.trans (cgB g27)) rfl (k_no (f26.trans (cgB g27)) rfl (k_pickF (f26.trans (cgB g27)) rfl ?_)));exact ⟨rfl,cgB (Option.some.inj h),(by repeat (first | exact (Keep.refl _ _ _ _) | refine Keep.upd ?_ rfl _))⟩
 rintro σ32 _ _ ⟨rfl,f34,k33⟩;have f35:=(k33 0 rfl).trans f25;refine k_mov f34 (gL fun σ36 e37=>?_);have f38:=(congrFun e37 0).trans f35;have f39 : σ36 21 = V (.bool y30):=(congrFun e37 21).trans rfl;obtain ⟨y44,e45,h⟩:=obind h;refine k_mid (fun σ' hp' _=>[] = hp' ∧ σ' 25 = V (.bool y44) ∧ Keep [] 22 25 σ36 σ') ?_ ?_
 ·rcases bt y30 with g40 | g40
  ·have h:=ctrue e45 g40
   refine k_yes (f39.trans (cgB g40)) (k_mov f38 (k_yes (f39.trans (cgB g40)) ?_));obtain ⟨y41,e42,h⟩:=obind h;refine k_call (.cons rfl rfl (.cons rfl rfl .nil)) (s132  e42) (.inl rfl) ?_;rintro _ rfl;refine k_yes (f39.trans (cgB g40)) (k_bin rfl rfl rfl (k_pickT (f39.trans (cgB g40)) rfl ?_));exact ⟨rfl,cgB (Option.some.inj h),(by repeat (first | exact (Keep.refl _ _ _ _) | refine Keep.upd ?_ rfl _))⟩
  ·have h:=cfalse e45 g40
   refine k_no (f39.trans (cgB g40)) rfl (k_no (f39.trans (cgB g40)) rfl (k_no (f39.trans (cgB g40)) rfl (k_pickF (f39.trans (cgB g40)) rfl ?_)));exact ⟨rfl,cgB (Option.some.inj h),(by repeat (first | exact (Keep.refl _ _ _ _) | refine Keep.upd ?_ rfl _))⟩
 rintro σ46 _ _ ⟨rfl,f48,k47⟩;refine k_mov f48 (k_nil (wpE_ret ?_));cases h
 exact e_ret (ct:=0) (.tmp rfl (back_sc rfl) .nil) rfl
theorem s161 {x0 : Int} {x1 : Int} {x2 : Int} {r : Bool}  (h : uF161 x0 x1 x2 = some r) : pc L 161 [.c (I (.int .i64 x0)),.c (I (.int .i64 x1)),.c (I (.int .i64 x2))] true (P161 r):=by
 refine fn_pure (fn:=ir161) rfl (nlt rfl) fun lent hl=>?_;unfold uF161 at h;refine e_reg (k_mov rfl (k_nil (e_reg (k_mov rfl (k_mov rfl (k_bin rfl rfl rfl (k_mov rfl (gL fun σ1 e2=>?_))))))));have f3 : σ1 0 = V (.int .i64 x0):=(congrFun e2 0).trans rfl;have f4 : σ1 2 = V (.int .i64 x2):=(congrFun e2 2).trans rfl;have f5 : σ1 10 = V (.bool ((decide (x0 ≥ x1)))):=(congrFun e2 10).trans rfl;refine k_mid (fun σ' hp' _=>[] = hp' ∧ σ' 14 = V (.bool (((decide (x0 ≥ x1)) && (decide (x0 ≤ x2))))) ∧ Keep [] 11 14 σ1 σ') ?_ ?_
 ·rcases bt ((decide (x0 ≥ x1))) with g6 | g6
  ·refine k_yes (f5.trans (cgB g6)) ?_
   refine k_mov f3 (k_yes (f5.trans (cgB g6)) (k_mov f4 (k_yes (f5.trans (cgB g6)) (k_bin rfl rfl rfl (k_pickT (f5.trans (cgB g6)) rfl ?_)))));exact ⟨rfl,cgB (by rw [g6]; rfl),(by repeat (first | exact (Keep.refl _ _ _ _) | refine Keep.upd ?_ rfl _))⟩
  ·refine k_no (f5.trans (cgB g6)) rfl ?_
   refine k_no (f5.trans (cgB g6)) rfl (k_no (f5.trans (cgB g6)) rfl (k_pickF (f5.trans (cgB g6)) rfl ?_));exact ⟨rfl,cgB (by rw [g6]; rfl),(by repeat (first | exact (Keep.refl _ _ _ _) | refine Keep.upd ?_ rfl _))⟩
 rintro σ7 _ _ ⟨rfl,f9,k8⟩;refine k_mov f9 ?_;obtain ⟨u10,e11,h⟩:=bnd_e h;refine k_nil (wpE_ret ?_);cases h
 exact e_ret (ct:=0) (.tmp (cgB e11) (back_sc rfl) .nil) rfl
theorem s238 {x0 : Int} {x1 : Int} {r : Bool}  (h : uF238 x0 x1 = some r) : pc L 238 [.c (I (.int .i64 x0)),.c (I (.int .i64 x1))] true (P238 r):=by
 refine fn_pure (fn:=ir238) rfl (nlt rfl) fun lent hl=>?_;unfold uF238 at h;refine e_reg (k_mov rfl (k_nil (e_reg (k_mov rfl (k_bin rfl rfl rfl (k_mov rfl (gL fun σ1 e2=>?_)))))));have f3 : σ1 0 = V (.int .i64 x0):=(congrFun e2 0).trans rfl;have f4 : σ1 1 = V (.int .i64 x1):=(congrFun e2 1).trans rfl;have f5 : σ1 7 = V (.bool ((decide (x0 ≥ ((0 : Int)))))):=(congrFun e2 7).trans rfl;refine k_mid (fun σ' hp' _=>[] = hp' ∧ σ' 11 = V (.bool (((decide (x0 ≥ ((0 : Int)))) && (decide (x0 < x1))))) ∧ Keep [] 8 11 σ1 σ') ?_ ?_
 ·rcases bt ((decide (x0 ≥ ((0 : Int))))) with g6 | g6
  ·refine k_yes (f5.trans (cgB g6)) ?_
   refine k_mov f3 (k_yes (f5.trans (cgB g6)) (k_mov f4 (k_yes (f5.trans (cgB g6)) (k_bin rfl rfl rfl (k_pickT (f5.trans (cgB g6)) rfl ?_)))));exact ⟨rfl,cgB (by rw [g6]; rfl),(by repeat (first | exact (Keep.refl _ _ _ _) | refine Keep.upd ?_ rfl _))⟩
  ·refine k_no (f5.trans (cgB g6)) rfl ?_
   refine k_no (f5.trans (cgB g6)) rfl (k_no (f5.trans (cgB g6)) rfl (k_pickF (f5.trans (cgB g6)) rfl ?_));exact ⟨rfl,cgB (by rw [g6]; rfl),(by repeat (first | exact (Keep.refl _ _ _ _) | refine Keep.upd ?_ rfl _))⟩
 rintro σ7 _ _ ⟨rfl,f9,k8⟩;have f10:=(k8 1 rfl).trans f4;refine k_mov f9 (gL fun σ11 e12=>?_);have f13:=(congrFun e12 1).trans f10;have f14 : σ11 12 = V (.bool (((decide (x0 ≥ ((0 : Int)))) && (decide (x0 < x1))))):=(congrFun e12 12).trans rfl;refine k_mid (fun σ' hp' _=>[] = hp' ∧ σ' 15 = V (.bool ((((decide (x0 ≥ ((0 : Int)))) && (decide (x0 < x1))) && (decide (x1 ≤ ((1440 : Int))))))) ∧ Keep [] 13 15 σ11 σ') ?_ ?_
 ·rcases bt (((decide (x0 ≥ ((0 : Int)))) && (decide (x0 < x1)))) with g15 | g15
  ·refine k_yes (f14.trans (cgB g15)) ?_
   refine k_mov f13 (k_yes (f14.trans (cgB g15)) (k_bin rfl rfl rfl (k_pickT (f14.trans (cgB g15)) rfl ?_)));exact ⟨rfl,cgB (by rw [g15]; rfl),(by repeat (first | exact (Keep.refl _ _ _ _) | refine Keep.upd ?_ rfl _))⟩
  ·refine k_no (f14.trans (cgB g15)) rfl ?_
   refine k_no (f14.trans (cgB g15)) rfl (k_pickF (f14.trans (cgB g15)) rfl ?_);exact ⟨rfl,cgB (by rw [g15]; rfl),(by repeat (first | exact (Keep.refl _ _ _ _) | refine Keep.upd ?_ rfl _))⟩
 rintro σ16 _ _ ⟨rfl,f18,k17⟩;refine k_mov f18 ?_;obtain ⟨u19,e20,h⟩:=bnd_e h;refine k_nil (wpE_ret ?_);cases h
 exact e_ret (ct:=0) (.tmp (cgB e20) (back_sc rfl) .nil) rfl
theorem s225 {x0 : uT4} {cx0 : List IV} {r : Int} (hx0 : uR4.rp false cx0 x0) (h : uF225b x0 = some r) : pc L 225 [.agg (cx0.map I)] true (P225 r):=by
 refine fn_pure (fn:=ir225) rfl (nlt rfl) fun lent hl=>?_;unfold uF225b at h;obtain ⟨v1,v3,rfl,q2,q4⟩:=uR4.inv hx0;refine e_reg (k_box rfl rfl fun g5 hp6 k7 r8=>?_);refine k_mov rfl (k_nil (wpE_seq (e_reg (k_fadrB (o:=2) rfl k7 (k_loadB rfl k7 rfl (k_len rfl (sv.any [] _ q2) (k_bin rfl rfl rfl (k_nil (wpE_cond (p:=(decide (((List.length x0.Rows : Int)) > ((50 : Int))))) rfl (fun g9=>?_) (fun g9=>?_))))))))))
 ·have h:=ctrue h g9
  refine e_reg (k_mov rfl (k_nil (wpE_ret ?_)));cases h
  exact e_ret (ct:=0) (.tmp rfl (back_sc rfl) .nil) rfl
 ·have h:=cfalse h g9
  refine wpE_skip (wpE_seq (e_reg (k_fadrB (o:=2) rfl k7 (k_loadB rfl k7 rfl (k_len rfl (sv.any [] _ q2) (k_mov rfl (k_nil (wpE_block (gE fun σ10 e11=>?_)))))))));have f12 : σ10 1 = .v (.c (.r (.ptr 1 g5 0))):=(congrFun e11 1).trans rfl;have f13 : σ10 12 = .v (.c ((I v1))):=(congrFun e11 12).trans rfl;have f14 : σ10 13 = V (.int .i64 ((List.length x0.Rows : Int))):=(congrFun e11 13).trans rfl;have f15 : σ10 14 = V (.int .i64 ((0 : Int))):=(congrFun e11 14).trans rfl;obtain ⟨e16,h17,h⟩:=lret_e h;refine wpE_mono (e_loop h17 (I:=fun s σ' hp' _=>σ' 14 = V (.int .i64 s) ∧ Keep [2,4] 14 30 σ10 σ' ∧ Fr [4] hp6 hp') (X:=fun e ex σ' hp' _=>match e with | .inl e=>ex = .exit 0 ∧ Keep [2,4] 14 30 σ10 σ' ∧ Fr [4] hp6 hp' | .inr r=>ex = .ret ∧ ∀ ct,atEnd 80 [Res.tmp 2] (fin lent (P225 r)) .ret σ' hp' ct) ⟨f15,Keep.refl _ _ _ _,Fr.refl _ _⟩ ?_) ?_
  ·clear h
   rintro w18 o σ20 hp21 _ h ⟨f19,k22,r23⟩;have h : uF225 x0 w18 = some o:=h; unfold uF225 at h;have f25:=(k22 12 rfl).trans f13;have f26:=(k22 13 rfl).trans f14;refine e_reg (k_bin f19 f26 rfl (k_nil (wpE_seq (wpE_cond (p:=(decide (w18 < ((List.length x0.Rows : Int))))) rfl (fun g28=>?_) (fun g28=>?_)))))
   ·have h:=ctrue h g28
    refine wpE_skip (wpE_seq (wpE_block (e_reg ?_)));obtain ⟨y29,e30,h⟩:=obind h;refine k_iadrL f25 (sv.any [] _ q2) f19 e30 rfl fun p31 c32 q33 h34=>?_;obtain ⟨_,rfl⟩:=uR9.inv h34;refine k_loadL rfl q33 rfl (k_alloc fun g35 hp36 k37 r38=>?_);have r39 : Fr [4] hp6 hp36:=Fr.ext r23 r38 rfl;refine k_storeB rfl rfl k37 rfl fun hp41 k42 r43=>?_;have r44 : Fr [4] hp6 hp41:=Fr.ext r39 r43 rfl;refine k_nil (e_reg (k_fadrB (o:=0) rfl k42 (k_loadB rfl k42 rfl ?_)));obtain ⟨y46,e47,h⟩:=obind h;refine k_call (.cons rfl rfl (.cons rfl rfl (.cons rfl rfl .nil))) (s161  e47) (.inl rfl) ?_;rintro _ rfl;refine k_not rfl (k_mov rfl (gL fun σ49 e50=>?_));have k51 : Keep [2,4] 14 30 σ10 σ49:=by rw [e50]; repeat (first | exact k22 | refine Keep.upd ?_ rfl _)
    have f55:=(congrFun e50 14).trans f19;have f56 : σ49 4 = .v (.c (.r (.ptr 4 g35 0))):=(congrFun e50 4).trans rfl;have f57 : σ49 22 = V (.bool (!y46)):=(congrFun e50 22).trans rfl;obtain ⟨y62,e63,h⟩:=obind h;refine k_mid (fun σ' hp' _=>hp41 = hp' ∧ σ' 29 = V (.bool y62) ∧ Keep [] 23 29 σ49 σ') ?_ ?_
    ·rcases bt (!y46) with g58 | g58
     ·have h:=ctrue e63 g58
      refine k_no (f57.trans (cgB g58)) rfl (k_no (f57.trans (cgB g58)) rfl (k_no (f57.trans (cgB g58)) rfl (k_no (f57.trans (cgB g58)) rfl (k_no (f57.trans (cgB g58)) rfl (k_no (f57.trans (cgB g58)) rfl (k_pickT (f57.trans (cgB g58)) rfl ?_))))));exact ⟨rfl,cgB (Option.some.inj h),(by repeat (first | exact (Keep.refl _ _ _ _) | refine Keep.upd ?_ rfl _))⟩
     ·have h:=cfalse e63 g58
      refine k_yes (f57.trans (cgB g58)) (k_fadrB (o:=1) f56 k42 (k_yes (f57.trans (cgB g58)) (k_loadB rfl k42 rfl (k_yes (f57.trans (cgB g58)) (k_fadrB (o:=2) f56 k42 (k_yes (f57.trans (cgB g58)) (k_loadB rfl k42 rfl (k_yes (f57.trans (cgB g58)) ?_))))))));obtain ⟨y59,e60,h⟩:=obind h;refine k_call (.cons rfl rfl (.cons rfl rfl .nil)) (s238  e60) (.inl rfl) ?_;rintro _ rfl;refine k_yes (f57.trans (cgB g58)) (k_not rfl (k_pickF (f57.trans (cgB g58)) rfl ?_));exact ⟨rfl,cgB (Option.some.inj h),(by repeat (first | exact (Keep.refl _ _ _ _) | refine Keep.upd ?_ rfl _))⟩
    rintro σ64 _ _ ⟨rfl,f66,k65⟩;have f70:=(k65 14 rfl).trans f55;have k71 : Keep [2,4] 14 30 σ10 σ64:=Keep.trans k51 (Keep.sub k65 rfl);refine k_nil (wpE_cond (p:=y62) f66 (fun g72=>?_) (fun g72=>?_))
    ·have h:=ctrue h g72
     refine e_reg (k_mov rfl (k_nil (wpE_ret ?_)));cases h
     exact ⟨by decide,rfl,fun _=>e_ret (ct:=0) (.tmp rfl (back_sc rfl) .nil) rfl⟩
    ·have h:=cfalse h g72
     refine wpE_skip (e_last (k_bin f70 rfl rfl (k_mov rfl (k_nil ?_))));cases h
     exact ⟨rfl,rfl,(by repeat (first | exact k71 | refine Keep.upd ?_ rfl _)),r44⟩
   ·have h:=cfalse h g28
    refine wpE_exit ?_;cases h
    exact ⟨by decide,rfl,(by repeat (first | exact k22 | refine Keep.upd ?_ rfl _)),r23⟩
  rcases e16 with _ | r1;rotate_left
  ·rintro _ _ _ _ ⟨rfl,hX⟩
   cases h
   exact hX 0
  rintro _ σ73 hp74 _ ⟨rfl,k75,r76⟩;have f77:=(k75 1 rfl).trans f12;have k78:=(r76 1 (by decide)).trans k7;refine wpE_seq (e_reg (k_fadrB (o:=3) f77 k78 (k_loadB rfl k78 rfl (k_len rfl (sv.any [] _ q4) (k_bin rfl rfl rfl (k_nil (wpE_cond (p:=(decide (((List.length x0.Holidays : Int)) > ((200 : Int))))) rfl (fun g79=>?_) (fun g79=>?_))))))))
  ·have h:=ctrue h g79
   refine e_reg (k_mov rfl (k_nil (wpE_ret ?_)));cases h
   exact e_ret (ct:=0) (.tmp rfl (back_sc rfl) .nil) rfl
  ·have h:=cfalse h g79
   refine wpE_skip (wpE_seq (e_reg (k_fadrB (o:=3) f77 k78 (k_loadB rfl k78 rfl (k_len rfl (sv.any [] _ q4) (k_mov rfl (k_nil (wpE_block (gE fun σ80 e81=>?_)))))))));have f82:=(congrFun e81 1).trans f77;have f83 : σ80 36 = .v (.c ((I v3))):=(congrFun e81 36).trans rfl;have f84 : σ80 37 = V (.int .i64 ((List.length x0.Holidays : Int))):=(congrFun e81 37).trans rfl;have f85 : σ80 38 = V (.int .i64 ((0 : Int))):=(congrFun e81 38).trans rfl;obtain ⟨e86,h87,h⟩:=lret_e h;refine wpE_mono (e_loop h87 (I:=fun s σ' hp' _=>σ' 38 = V (.int .i64 s) ∧ Keep [2,5,6] 38 79 σ80 σ' ∧ Fr [6] hp74 hp') (X:=fun e ex σ' hp' _=>match e with | .inl e=>ex = .exit 2 ∧ Keep [2,5,6] 38 79 σ80 σ' ∧ Fr [6] hp74 hp' | .inr r=>ex = .ret ∧ ∀ ct,atEnd 80 [Res.tmp 2] (fin lent (P225 r)) .ret σ' hp' ct) ⟨f85,Keep.refl _ _ _ _,Fr.refl _ _⟩ ?_) ?_
   ·clear h
    rintro w88 o σ90 hp91 _ h ⟨f89,k92,r93⟩;have h : uF225a x0 w88 = some o:=h; unfold uF225a at h;have f94:=(k92 1 rfl).trans f82;have f95:=(k92 36 rfl).trans f83;have f96:=(k92 37 rfl).trans f84;have k97:=(r93 1 (by decide)).trans k78;refine e_reg (k_bin f89 f96 rfl (k_nil (wpE_seq (wpE_cond (p:=(decide (w88 < ((List.length x0.Holidays : Int))))) rfl (fun g98=>?_) (fun g98=>?_)))))
    ·have h:=ctrue h g98
     refine wpE_skip (wpE_seq (wpE_block (e_reg (k_mov f89 ?_))));obtain ⟨y99,e100,h⟩:=obind h;refine k_iadrL f95 (sv.any [] _ q4) f89 e100 rfl fun p101 c102 q103 h104=>?_;obtain ⟨_,rfl⟩:=uR8.inv h104;refine k_loadL rfl q103 rfl (k_alloc fun g105 hp106 k107 r108=>?_);have r109 : Fr [6] hp74 hp106:=Fr.ext r93 r108 rfl;have k110:=(r108 1 (by decide)).trans k97;refine k_mov rfl (k_storeB rfl rfl k107 rfl fun hp111 k112 r113=>?_);have r114 : Fr [6] hp74 hp111:=Fr.ext r109 r113 rfl;have k115:=(r113 1 (by decide)).trans k110;refine k_nil (wpE_seq (e_reg (k_fadrB (o:=0) rfl k112 (k_loadB rfl k112 rfl ?_))));obtain ⟨y116,e117,h⟩:=obind h;refine k_call (.cons rfl rfl (.cons rfl rfl (.cons rfl rfl .nil))) (s161  e117) (.inl rfl) ?_;rintro _ rfl;refine k_not rfl (k_mov rfl (gL fun σ119 e120=>?_));have k121 : Keep [2,5,6] 38 79 σ80 σ119:=by rw [e120]; repeat (first | exact k92 | refine Keep.upd ?_ rfl _)
     have f122:=(congrFun e120 1).trans f94;have f125:=(congrFun e120 38).trans f89;have f126 : σ119 6 = .v (.c (.r (.ptr 6 g105 0))):=(congrFun e120 6).trans rfl;have f127 : σ119 5 = V (.int .i64 w88):=(congrFun e120 5).trans rfl;have f128 : σ119 47 = V (.bool (!y116)):=(congrFun e120 47).trans rfl;obtain ⟨y181,e182,h⟩:=obind h;refine k_mid (fun σ' hp' _=>hp111 = hp' ∧ σ' 64 = V (.bool y181) ∧ Keep [] 48 64 σ119 σ') ?_ ?_
     ·rcases bt (!y116) with g129 | g129
      ·have h:=ctrue e182 g129
       refine k_no (f128.trans (cgB g129)) rfl (k_no (f128.trans (cgB g129)) rfl (k_no (f128.trans (cgB g129)) rfl (k_no (f128.trans (cgB g129)) rfl (k_noS rfl (k_noS rfl (k_noS rfl (k_no (f128.trans (cgB g129)) rfl (k_no (f128.trans (cgB g129)) rfl (k_noS rfl ?_)))))))));refine k_noS rfl (k_noS rfl (k_noS rfl (k_noS rfl (k_noS rfl (k_no (f128.trans (cgB g129)) rfl (k_pickT (f128.trans (cgB g129)) rfl ?_))))));exact ⟨rfl,cgB (Option.some.inj h),(by repeat (first | exact (Keep.refl _ _ _ _) | refine Keep.upd ?_ rfl _))⟩
      ·have h:=cfalse e182 g129
       refine k_yes (f128.trans (cgB g129)) (k_fadrB (o:=1) f126 k112 (k_yes (f128.trans (cgB g129)) (k_loadB rfl k112 rfl (k_yes (f128.trans (cgB g129)) (k_bin rfl rfl rfl (k_yes (f128.trans (cgB g129)) (k_mov rfl (gL fun σ130 e131=>?_))))))));have k132 : Keep [] 48 64 σ119 σ130:=by rw [e131]; repeat (first | exact (Keep.refl _ _ _ _) | refine Keep.upd ?_ rfl _)
       have f137:=(congrFun e131 6).trans f126;have f139 : σ130 47 = V (.bool false):=(congrFun e131 47).trans (f128.trans (cgB g129));have f140 : σ130 51 = V (.bool ((y99.From != ((0 : Int))))):=(congrFun e131 51).trans rfl;refine k_mid (fun σ' hp' _=>hp111 = hp' ∧ σ' 55 = V (.bool (((y99.From != ((0 : Int))) || (y99.To != ((0 : Int)))))) ∧ Keep [] 52 55 σ130 σ') ?_ ?_
       ·rcases bt ((y99.From != ((0 : Int)))) with g141 | g141
        ·refine k_no (f140.trans (cgB g141)) rfl ?_
         refine k_no (f140.trans (cgB g141)) rfl (k_no (f140.trans (cgB g141)) rfl (k_yes f139 (k_pickT (f140.trans (cgB g141)) rfl ?_)));exact ⟨rfl,cgB (by rw [g141]; rfl),(by repeat (first | exact (Keep.refl _ _ _ _) | refine Keep.upd ?_ rfl _))⟩
        ·refine k_yes (f140.trans (cgB g141)) ?_
         refine k_fadrB (o:=2) f137 k112 (k_yes (f140.trans (cgB g141)) (k_loadB rfl k112 rfl (k_yes (f140.trans (cgB g141)) (k_bin rfl rfl rfl (k_yes f139 (k_pickF (f140.trans (cgB g141)) rfl ?_))))));exact ⟨rfl,cgB (by rw [g141]; rfl),(by repeat (first | exact (Keep.refl _ _ _ _) | refine Keep.upd ?_ rfl _))⟩
       rintro σ142 _ _ ⟨rfl,f144,k143⟩;have f149:=(k143 6 rfl).trans f137;have f151:=(k143 47 rfl).trans f139;have k152 : Keep [] 48 64 σ119 σ142:=Keep.trans k132 (Keep.sub k143 rfl);refine k_yes f151 (k_mov f144 (gL fun σ153 e154=>?_));have k155 : Keep [] 48 64 σ119 σ153:=by rw [e154]; repeat (first | exact k152 | refine Keep.upd ?_ rfl _)
       have f160:=(congrFun e154 6).trans f149;have f162:=(congrFun e154 47).trans f151;have f163 : σ153 56 = V (.bool (((y99.From != ((0 : Int))) || (y99.To != ((0 : Int)))))):=(congrFun e154 56).trans rfl;obtain ⟨y168,e169,h⟩:=obind h;refine k_mid (fun σ' hp' _=>hp111 = hp' ∧ σ' 63 = V (.bool y168) ∧ Keep [] 57 63 σ153 σ') ?_ ?_
       ·rcases bt (((y99.From != ((0 : Int))) || (y99.To != ((0 : Int))))) with g164 | g164
        ·have h:=ctrue e169 g164
         refine k_yes (f163.trans (cgB g164)) (k_fadrB (o:=1) f160 k112 (k_yes (f163.trans (cgB g164)) (k_loadB rfl k112 rfl (k_yes (f163.trans (cgB g164)) (k_fadrB (o:=2) f160 k112 (k_yes (f163.trans (cgB g164)) (k_loadB rfl k112 rfl (k_yes (f163.trans (cgB g164)) ?_))))))));obtain ⟨y165,e166,h⟩:=obind h;refine k_call (.cons rfl rfl (.cons rfl rfl .nil)) (s238  e166) (.inl rfl) ?_;rintro _ rfl;refine k_yes (f163.trans (cgB g164)) (k_not rfl (k_yes f162 (k_pickT (f163.trans (cgB g164)) rfl ?_)));exact ⟨rfl,cgB (Option.some.inj h),(by repeat (first | exact (Keep.refl _ _ _ _) | refine Keep.upd ?_ rfl _))⟩
        ·have h:=cfalse e169 g164
         refine k_no (f163.trans (cgB g164)) rfl (k_no (f163.trans (cgB g164)) rfl (k_no (f163.trans (cgB g164)) rfl (k_no (f163.trans (cgB g164)) rfl (k_no (f163.trans (cgB g164)) rfl (k_no (f163.trans (cgB g164)) rfl (k_yes f162 (k_pickF (f163.trans (cgB g164)) rfl ?_)))))));exact ⟨rfl,cgB (Option.some.inj h),(by repeat (first | exact (Keep.refl _ _ _ _) | refine Keep.upd ?_ rfl _))⟩
       rintro σ170 _ _ ⟨rfl,f172,k171⟩;have f179:=(k171 47 rfl).trans f162;have k180 : Keep [] 48 64 σ119 σ170:=Keep.trans k155 (Keep.sub k171 rfl);refine k_pickF f179 f172 ?_;exact ⟨rfl,cgB (Option.some.inj h),(by repeat (first | exact k180 | refine Keep.upd ?_ rfl _))⟩
     rintro σ183 _ _ ⟨rfl,f185,k184⟩;have f186:=(k184 1 rfl).trans f122;have f189:=(k184 38 rfl).trans f125;have f190:=(k184 6 rfl).trans f126;have f191:=(k184 5 rfl).trans f127;have k192 : Keep [2,5,6] 38 79 σ80 σ183:=Keep.trans k121 (Keep.sub k184 rfl);refine k_nil (wpE_cond (p:=y181) f185 (fun g193=>?_) (fun g193=>?_))
     ·have h:=ctrue h g193
      refine e_reg (k_mov rfl (k_nil (wpE_ret ?_)));cases h
      exact ⟨by decide,rfl,fun _=>e_ret (ct:=0) (.tmp rfl (back_sc rfl) .nil) rfl⟩
     ·have h:=cfalse h g193
      refine wpE_skip (e_regD (by kernel_rfl) (by kernel_rfl) (k_mov f191 (k_bin rfl rfl rfl (k_mov rfl (gL fun σ194 e195=>?_)))));have k196 : Keep [2,5,6] 38 79 σ80 σ194:=by rw [e195]; repeat (first | exact k192 | refine Keep.upd ?_ rfl _)
      have f197:=(congrFun e195 1).trans f186;have f200:=(congrFun e195 38).trans f189;have f201:=(congrFun e195 6).trans f190;have f202:=(congrFun e195 5).trans f191;have f203 : σ194 67 = V (.bool ((decide (w88 > ((0 : Int)))))):=(congrFun e195 67).trans rfl;obtain ⟨y213,e214,h⟩:=obind h;refine k_mid (fun σ' hp' _=>hp111 = hp' ∧ σ' 78 = V (.bool y213) ∧ Keep [] 68 78 σ194 σ') ?_ ?_
      ·rcases bt ((decide (w88 > ((0 : Int))))) with g204 | g204
       ·have h:=ctrue e214 g204
        refine k_yes (f203.trans (cgB g204)) (k_fadrB (o:=0) f201 k112 (k_yes (f203.trans (cgB g204)) (k_loadB rfl k112 rfl (k_yes (f203.trans (cgB g204)) (k_fadrB (o:=3) f197 k115 (k_yes (f203.trans (cgB g204)) (k_loadB rfl k115 rfl (k_yes (f203.trans (cgB g204)) (k_mov f202 ?_)))))))));refine k_yes (f203.trans (cgB g204)) (k_bin rfl rfl rfl (k_yes (f203.trans (cgB g204)) ?_));obtain ⟨y205,e206,h⟩:=obind h;refine k_iadrL rfl (sv.any [] _ q4) rfl e206 rfl fun p207 c208 q209 h210=>?_;obtain ⟨_,rfl⟩:=uR8.inv h210;refine k_yes (f203.trans (cgB g204)) (k_fadrL (o:=0) rfl q209 (nlt rfl) fun p211 q212=>?_);refine k_yes (f203.trans (cgB g204)) (k_loadL rfl q212 rfl (k_yes (f203.trans (cgB g204)) (k_bin rfl rfl rfl (k_pickT (f203.trans (cgB g204)) rfl ?_))));exact ⟨rfl,cgB (Option.some.inj h),(by repeat (first | exact (Keep.refl _ _ _ _) | refine Keep.upd ?_ rfl _))⟩
       ·have h:=cfalse e214 g204
        refine k_no (f203.trans (cgB g204)) rfl (k_no (f203.trans (cgB g204)) rfl (k_no (f203.trans (cgB g204)) rfl (k_no (f203.trans (cgB g204)) rfl (k_no (f203.trans (cgB g204)) rfl (k_no (f203.trans (cgB g204)) rfl (k_no (f203.trans (cgB g204)) rfl (k_no (f203.trans (cgB g204)) rfl (k_no (f203.trans (cgB g204)) rfl (k_no (f203.trans (cgB g204)) rfl ?_)))))))));refine k_pickF (f203.trans (cgB g204)) rfl ?_;exact ⟨rfl,cgB (Option.some.inj h),(by repeat (first | exact (Keep.refl _ _ _ _) | refine Keep.upd ?_ rfl _))⟩
      rintro σ215 _ _ ⟨rfl,f217,k216⟩;have f221:=(k216 38 rfl).trans f200;have k222 : Keep [2,5,6] 38 79 σ80 σ215:=Keep.trans k196 (Keep.sub k216 rfl);refine k_nil (wpE_cond (p:=y213) f217 (fun g223=>?_) (fun g223=>?_))
      ·have h:=ctrue h g223
       refine e_reg (k_mov rfl (k_nil (wpE_ret ?_)));cases h
       exact ⟨by decide,rfl,fun _=>e_ret (ct:=0) (.tmp rfl (back_sc rfl) .nil) rfl⟩
      ·have h:=cfalse h g223
       refine wpE_skip (e_last (k_bin f221 rfl rfl (k_mov rfl (k_nil ?_))));cases h
       exact ⟨rfl,rfl,(by repeat (first | exact k222 | refine Keep.upd ?_ rfl _)),r114⟩
    ·have h:=cfalse h g98
     refine wpE_exit ?_;cases h
     exact ⟨by decide,rfl,(by repeat (first | exact k92 | refine Keep.upd ?_ rfl _)),r93⟩
   rcases e86 with _ | r1;rotate_left
   ·rintro _ _ _ _ ⟨rfl,hX⟩
    cases h
    exact hX 0
   rintro _ σ224 hp225 _ ⟨rfl,k226,r227⟩;refine e_reg (k_mov rfl (k_nil (wpE_ret ?_)));cases h
   exact e_ret (ct:=0) (.tmp rfl (back_sc rfl) .nil) rfl
theorem s194 {x0 : List uT4} {vx0 : IV} {r : Int} (hx0 : sv uR4 false vx0 x0) (h : uF194a x0 = some r) : pc L 194 [.c (I vx0)] true (P194 r):=by
 refine fn_pure (fn:=ir194) rfl (nlt rfl) fun lent hl=>?_;unfold uF194a at h;refine e_reg (k_mov rfl (k_nil (wpE_seq (e_reg (k_mov rfl (k_len rfl (sv.any [] _ hx0) (k_bin rfl rfl rfl (k_nil (wpE_cond (p:=(decide (((List.length x0 : Int)) > ((50 : Int))))) rfl (fun g1=>?_) (fun g1=>?_))))))))))
 ·have h:=ctrue h g1
  refine e_reg (k_mov rfl (k_nil (wpE_ret ?_)));cases h
  exact e_ret (ct:=0) (.tmp rfl (back_sc rfl) .nil) rfl
 ·have h:=cfalse h g1
  refine wpE_skip (wpE_seq (e_reg (k_mov rfl (k_len rfl (sv.any [] _ hx0) (k_mov rfl (k_nil (wpE_block (gE fun σ2 e3=>?_))))))));have f4 : σ2 0 = .v (.c ((I vx0))):=(congrFun e3 0).trans rfl;have f5 : σ2 9 = .v (.c ((I vx0))):=(congrFun e3 9).trans rfl;have f6 : σ2 10 = V (.int .i64 ((List.length x0 : Int))):=(congrFun e3 10).trans rfl;have f7 : σ2 11 = V (.int .i64 ((0 : Int))):=(congrFun e3 11).trans rfl;obtain ⟨e8,h9,h⟩:=lret_e h;refine wpE_mono (e_loop h9 (I:=fun s σ' hp' _=>σ' 11 = V (.int .i64 s) ∧ Keep [2,3,4,5] 11 45 σ2 σ' ∧ Fr [4] [] hp') (X:=fun e ex σ' hp' _=>match e with | .inl e=>ex = .exit 0 ∧ Keep [2,3,4,5] 11 45 σ2 σ' ∧ Fr [4] [] hp' | .inr r=>ex = .ret ∧ ∀ ct,atEnd 46 [Res.tmp 2] (fin lent (P194 r)) .ret σ' hp' ct) ⟨f7,Keep.refl _ _ _ _,Fr.refl _ _⟩ ?_) ?_
  ·clear h
   rintro w10 o σ12 hp13 _ h ⟨f11,k14,r15⟩;have h : uF194 x0 w10 = some o:=h; unfold uF194 at h;have f16:=(k14 0 rfl).trans f4;have f17:=(k14 9 rfl).trans f5;have f18:=(k14 10 rfl).trans f6;refine e_reg (k_bin f11 f18 rfl (k_nil (wpE_seq (wpE_cond (p:=(decide (w10 < ((List.length x0 : Int))))) rfl (fun g19=>?_) (fun g19=>?_)))))
   ·have h:=ctrue h g19
    refine wpE_skip (wpE_seq (wpE_block (e_reg (k_mov f11 ?_))));obtain ⟨y20,e21,h⟩:=obind h;refine k_iadrL f17 (sv.any [] _ hx0) f11 e21 rfl fun p22 c23 q24 h25=>?_;obtain ⟨v26,v28,rfl,q27,q29⟩:=uR4.inv h25;refine k_loadL rfl q24 rfl (k_alloc fun g30 hp31 k32 r33=>?_);have r34 : Fr [4] [] hp31:=Fr.ext r15 r33 rfl;refine k_mov rfl (k_storeB rfl rfl k32 rfl fun hp35 k36 r37=>?_);have r38 : Fr [4] [] hp35:=Fr.ext r34 r37 rfl;refine k_nil (wpE_seq (wpE_block (e_reg (k_fadrB (o:=0) rfl k36 (k_loadB rfl k36 rfl ?_)))));obtain ⟨y39,e40,h⟩:=obind h;refine k_call (.cons rfl rfl .nil) (s69  e40) (.inl rfl) ?_;rintro _ rfl;refine k_not rfl (k_mov rfl (k_nil (wpE_cond (p:=(!y39)) rfl (fun g42=>?_) (fun g42=>?_))))
    ·have h:=ctrue h g42
     refine e_reg (k_mov rfl (k_nil (wpE_ret ?_)));cases h
     exact ⟨by decide,rfl,fun _=>e_ret (ct:=0) (.tmp rfl (back_sc rfl) .nil) rfl⟩
    ·have h:=cfalse h g42
     refine e_regD (by kernel_rfl) (by kernel_rfl) (k_mov rfl (k_bin rfl rfl rfl (k_mov rfl (gL fun σ43 e44=>?_))));have k45 : Keep [2,3,4,5] 11 45 σ2 σ43:=by rw [e44]; repeat (first | exact k14 | refine Keep.upd ?_ rfl _)
     have f46:=(congrFun e44 0).trans f16;have f49:=(congrFun e44 11).trans f11;have f50 : σ43 4 = .v (.c (.r (.ptr 4 g30 0))):=(congrFun e44 4).trans rfl;have f51 : σ43 3 = V (.int .i64 w10):=(congrFun e44 3).trans rfl;have f52 : σ43 24 = V (.bool ((decide (w10 > ((0 : Int)))))):=(congrFun e44 24).trans rfl;obtain ⟨y66,e67,h⟩:=obind h;refine k_mid (fun σ' hp' _=>hp35 = hp' ∧ σ' 34 = V (.bool y66) ∧ Keep [] 25 34 σ43 σ') ?_ ?_
     ·rcases bt ((decide (w10 > ((0 : Int))))) with g53 | g53
      ·have h:=ctrue e67 g53
       refine k_yes (f52.trans (cgB g53)) (k_fadrB (o:=0) f50 k36 (k_yes (f52.trans (cgB g53)) (k_loadB rfl k36 rfl (k_yes (f52.trans (cgB g53)) (k_mov f46 (k_yes (f52.trans (cgB g53)) (k_mov f51 (k_yes (f52.trans (cgB g53)) (k_bin rfl rfl rfl ?_)))))))));refine k_yes (f52.trans (cgB g53)) ?_;obtain ⟨y54,e55,h⟩:=obind h;refine k_iadrL rfl (sv.any [] _ hx0) rfl e55 rfl fun p56 c57 q58 h59=>?_;obtain ⟨v60,v62,rfl,q61,q63⟩:=uR4.inv h59;refine k_yes (f52.trans (cgB g53)) (k_fadrL (o:=0) rfl q58 (nlt rfl) fun p64 q65=>?_);refine k_yes (f52.trans (cgB g53)) (k_loadL rfl q65 rfl (k_yes (f52.trans (cgB g53)) (k_bin rfl rfl rfl (k_pickT (f52.trans (cgB g53)) rfl ?_))));exact ⟨rfl,cgB (Option.some.inj h),(by repeat (first | exact (Keep.refl _ _ _ _) | refine Keep.upd ?_ rfl _))⟩
      ·have h:=cfalse e67 g53
       refine k_no (f52.trans (cgB g53)) rfl (k_no (f52.trans (cgB g53)) rfl (k_no (f52.trans (cgB g53)) rfl (k_no (f52.trans (cgB g53)) rfl (k_no (f52.trans (cgB g53)) rfl (k_no (f52.trans (cgB g53)) rfl (k_no (f52.trans (cgB g53)) rfl (k_no (f52.trans (cgB g53)) rfl (k_no (f52.trans (cgB g53)) rfl (k_pickF (f52.trans (cgB g53)) rfl ?_)))))))));exact ⟨rfl,cgB (Option.some.inj h),(by repeat (first | exact (Keep.refl _ _ _ _) | refine Keep.upd ?_ rfl _))⟩
     rintro σ68 _ _ ⟨rfl,f70,k69⟩;have f74:=(k69 11 rfl).trans f49;have f75:=(k69 4 rfl).trans f50;have k76 : Keep [2,3,4,5] 11 45 σ2 σ68:=Keep.trans k45 (Keep.sub k69 rfl);refine k_mov f70 (k_nil (wpE_cond (p:=y66) rfl (fun g77=>?_) (fun g77=>?_)))
     ·have h:=ctrue h g77
      refine e_reg (k_mov rfl (k_nil (wpE_ret ?_)));cases h
      exact ⟨by decide,rfl,fun _=>e_ret (ct:=0) (.tmp rfl (back_sc rfl) .nil) rfl⟩
     ·have h:=cfalse h g77
      refine e_reg (k_fadrB (o:=1) f75 k36 (k_loadB rfl k36 rfl ?_));obtain ⟨y78,e79,h⟩:=obind h;refine k_call (.cons rfl rfl (.cons rfl rfl (.cons rfl rfl .nil))) (s161  e79) (.inl rfl) ?_;rintro _ rfl;refine k_not rfl (k_mov rfl (k_nil (wpE_cond (p:=(!y78)) rfl (fun g81=>?_) (fun g81=>?_))))
      ·have h:=ctrue h g81
       refine e_reg (k_mov rfl (k_nil (wpE_ret ?_)));cases h
       exact ⟨by decide,rfl,fun _=>e_ret (ct:=0) (.tmp rfl (back_sc rfl) .nil) rfl⟩
      ·have h:=cfalse h g81
       refine wpE_skip (e_reg (k_loadB f75 k36 rfl ?_));obtain ⟨y82,e83,h⟩:=obind h;refine k_call (.cons rfl rfl .nil) (s225 (cx0:=[IV.str y20.Key,IV.int .i64 y20.Zone,(IV.retag 1 v26),(IV.retag 1 v28)]) (uR4.mk (sv_retag q27) (sv_retag q29)) e83) (.inl rfl) ?_;rintro _ rfl;refine k_mov rfl (k_nil (e_reg (k_mov rfl (k_bin rfl rfl rfl (k_nil (wpE_cond (p:=(y82 != ((0 : Int)))) rfl (fun g85=>?_) (fun g85=>?_)))))))
       ·have h:=ctrue h g85
        refine e_reg (k_mov rfl (k_mov rfl (k_nil (wpE_ret ?_))));cases h
        exact ⟨by decide,rfl,fun _=>e_ret (ct:=0) (.tmp rfl (back_sc rfl) .nil) rfl⟩
       ·have h:=cfalse h g85
        refine wpE_skip (e_last (k_bin f74 rfl rfl (k_mov rfl (k_nil ?_))));cases h
        exact ⟨rfl,rfl,(by repeat (first | exact k76 | refine Keep.upd ?_ rfl _)),r38⟩
   ·have h:=cfalse h g19
    refine wpE_exit ?_;cases h
    exact ⟨by decide,rfl,(by repeat (first | exact k14 | refine Keep.upd ?_ rfl _)),r15⟩
  rcases e8 with _ | r1;rotate_left
  ·rintro _ _ _ _ ⟨rfl,hX⟩
   cases h
   exact hX 0
  rintro _ σ86 hp87 _ ⟨rfl,k88,r89⟩;refine e_reg (k_mov rfl (k_nil (wpE_ret ?_)));cases h
  exact e_ret (ct:=0) (.tmp rfl (back_sc rfl) .nil) rfl
theorem s102 {x0 : List (List UInt8)} {vx0 : IV} {x1 : List UInt8} {r : Int} (hx0 : sv Rep.str false vx0 x0) (h : uF102 x0 x1 = some r) : pc L 102 [.c (I vx0),.c (I (.str x1))] true (P102 r):=by
 refine fn_pure (fn:=ir102) rfl (nlt rfl) fun lent hl=>?_;unfold uF102 at h;refine e_reg (k_mov rfl (k_nil (wpE_seq (e_reg (k_mov rfl (k_len rfl (sv.any [] _ hx0) (k_mov rfl (k_nil (wpE_block ?_)))))))));refine gE fun σ1 e2=>?_;have f3 : σ1 0 = .v (.c ((I vx0))):=(congrFun e2 0).trans rfl;have f4 : σ1 1 = V (.str x1):=(congrFun e2 1).trans rfl;have f5 : σ1 7 = V (.int .i64 ((List.length x0 : Int))):=(congrFun e2 7).trans rfl;have f6 : σ1 8 = V (.int .i64 ((0 : Int))):=(congrFun e2 8).trans rfl;obtain ⟨e7,h8,h⟩:=lret_e h;refine wpE_mono (e_loop h8 (I:=fun s σ' hp' _=>σ' 8 = V (.int .i64 s) ∧ Keep [4,5] 8 18 σ1 σ' ∧ [] = hp') (X:=fun e ex σ' hp' _=>match e with | .inl e=>ex = .exit 0 ∧ Keep [4,5] 8 18 σ1 σ' ∧ [] = hp' | .inr r=>ex = .ret ∧ ∀ ct,atEnd 19 [Res.tmp 4] (fin lent (P102 r)) .ret σ' hp' ct) ⟨f6,Keep.refl _ _ _ _,rfl⟩ ?_) ?_
 ·clear h
  rintro w9 o σ11 _ _ h ⟨f10,k13,rfl⟩;have h : uF102a x0 x1 w9 = some o:=h; unfold uF102a at h;have f15:=(k13 0 rfl).trans f3;have f16:=(k13 1 rfl).trans f4;have f17:=(k13 7 rfl).trans f5;refine e_reg (k_bin f10 f17 rfl (k_nil (wpE_seq (wpE_cond (p:=(decide (w9 < ((List.length x0 : Int))))) rfl (fun g18=>?_) (fun g18=>?_)))))
  ·have h:=ctrue h g18
   refine wpE_skip (wpE_seq (wpE_block (e_reg (k_mov f10 (k_mov rfl (k_nil (e_reg (k_mov f16 (k_mov f15 ?_)))))))));refine k_mov rfl ?_;obtain ⟨y19,e20,h⟩:=obind h;refine k_iadrL rfl (sv.any [] _ hx0) rfl e20 rfl fun p21 c22 q23 h24=>?_;obtain rfl : c22 = [IV.str y19]:=h24;refine k_loadL rfl q23 rfl (k_bin rfl rfl rfl (k_nil (wpE_cond (p:=(x1 == y19)) rfl (fun g25=>?_) (fun g25=>?_))))
   ·have h:=ctrue h g25
    refine e_reg (k_mov rfl (k_mov rfl (k_nil (wpE_ret ?_))));cases h
    exact ⟨by decide,rfl,fun _=>e_ret (ct:=0) (.tmp rfl (back_sc rfl) .nil) rfl⟩
   ·have h:=cfalse h g25
    refine wpE_skip (e_last (k_bin f10 rfl rfl (k_mov rfl (k_nil ?_))));cases h
    exact ⟨rfl,rfl,(by repeat (first | exact k13 | refine Keep.upd ?_ rfl _)),rfl⟩
  ·have h:=cfalse h g18
   refine wpE_exit ?_;cases h
   exact ⟨by decide,rfl,(by repeat (first | exact k13 | refine Keep.upd ?_ rfl _)),rfl⟩
 rcases e7 with _ | r1;rotate_left
 ·rintro _ _ _ _ ⟨rfl,hX⟩
  cases h
  exact hX 0
 rintro _ σ26 _ _ ⟨rfl,k28,rfl⟩;refine e_reg (k_mov rfl (k_nil (wpE_ret ?_)));cases h
 exact e_ret (ct:=0) (.tmp rfl (back_sc rfl) .nil) rfl
theorem s47 {x0 : List (List UInt8)} {vx0 : IV} {x1 : List UInt8} {r : Bool} (hx0 : sv Rep.str false vx0 x0) (h : uF47 x0 x1 = some r) : pc L 47 [.c (I vx0),.c (I (.str x1))] true (P47 r):=by
 refine fn_pure (fn:=ir47) rfl (nlt rfl) fun lent hl=>?_;unfold uF47 at h;refine e_reg (k_mov rfl (k_nil (e_reg (k_mov rfl (k_mov rfl ?_)))));obtain ⟨y1,e2,h⟩:=obind h;refine k_call (.cons rfl rfl (.cons rfl rfl .nil)) (s102 (sv_retag hx0) e2) (.inl rfl) ?_;rintro _ rfl;refine k_bin rfl rfl rfl (k_mov rfl ?_);obtain ⟨u4,e5,h⟩:=bnd_e h;refine k_nil (wpE_ret ?_);cases h
 exact e_ret (ct:=0) (.tmp (cgB e5) (back_sc rfl) .nil) rfl
theorem s93 {x0 : List UInt8} {x1 : Int} {r : Bool}  (h : uF93 x0 x1 = some r) : pc L 93 [.c (I (.str x0)),.c (I (.int .i64 x1))] true (P93 r):=by
 refine fn_pure (fn:=ir93) rfl (nlt rfl) fun lent hl=>?_;unfold uF93 at h;refine e_reg (k_mov rfl (k_nil (e_reg (k_mov rfl (k_lenS rfl (k_mov rfl (k_bin rfl rfl rfl (k_mov rfl (gL fun σ1 e2=>?_)))))))));have f3 : σ1 0 = V (.str x0):=(congrFun e2 0).trans rfl;have f4 : σ1 9 = V (.bool ((decide (((List.length x0 : Int)) ≥ x1)))):=(congrFun e2 9).trans rfl;refine k_mid (fun σ' hp' _=>[] = hp' ∧ σ' 13 = V (.bool (((decide (((List.length x0 : Int)) ≥ x1)) && (decide (((List.length x0 : Int)) ≤ ((30 : Int))))))) ∧ Keep [] 10 13 σ1 σ') ?_ ?_
 ·rcases bt ((decide (((List.length x0 : Int)) ≥ x1))) with g5 | g5
  ·refine k_yes (f4.trans (cgB g5)) ?_
   refine k_mov f3 (k_yes (f4.trans (cgB g5)) (k_lenS rfl (k_yes (f4.trans (cgB g5)) (k_bin rfl rfl rfl (k_pickT (f4.trans (cgB g5)) rfl ?_)))));exact ⟨rfl,cgB (by rw [g5]; rfl),(by repeat (first | exact (Keep.refl _ _ _ _) | refine Keep.upd ?_ rfl _))⟩
  ·refine k_no (f4.trans (cgB g5)) rfl ?_
   refine k_no (f4.trans (cgB g5)) rfl (k_no (f4.trans (cgB g5)) rfl (k_pickF (f4.trans (cgB g5)) rfl ?_));exact ⟨rfl,cgB (by rw [g5]; rfl),(by repeat (first | exact (Keep.refl _ _ _ _) | refine Keep.upd ?_ rfl _))⟩
 rintro σ6 _ _ ⟨rfl,f8,k7⟩;have f9:=(k7 0 rfl).trans f3;refine k_mov f8 (gL fun σ10 e11=>?_);have f12:=(congrFun e11 0).trans f9;have f13 : σ10 14 = V (.bool (((decide (((List.length x0 : Int)) ≥ x1)) && (decide (((List.length x0 : Int)) ≤ ((30 : Int))))))):=(congrFun e11 14).trans rfl;obtain ⟨y18,e19,h⟩:=obind h;refine k_mid (fun σ' hp' _=>[] = hp' ∧ σ' 18 = V (.bool y18) ∧ Keep [] 15 18 σ10 σ') ?_ ?_
 ·rcases bt (((decide (((List.length x0 : Int)) ≥ x1)) && (decide (((List.length x0 : Int)) ≤ ((30 : Int)))))) with g14 | g14
  ·have h:=ctrue e19 g14
   refine k_yes (f13.trans (cgB g14)) (k_mov f12 (k_yes (f13.trans (cgB g14)) ?_));obtain ⟨y15,e16,h⟩:=obind h;refine k_call (.cons rfl rfl (.cons rfl rfl .nil)) (s132  e16) (.inl rfl) ?_;rintro _ rfl;refine k_yes (f13.trans (cgB g14)) (k_bin rfl rfl rfl (k_pickT (f13.trans (cgB g14)) rfl ?_));exact ⟨rfl,cgB (Option.some.inj h),(by repeat (first | exact (Keep.refl _ _ _ _) | refine Keep.upd ?_ rfl _))⟩
  ·have h:=cfalse e19 g14
   refine k_no (f13.trans (cgB g14)) rfl (k_no (f13.trans (cgB g14)) rfl (k_no (f13.trans (cgB g14)) rfl (k_pickF (f13.trans (cgB g14)) rfl ?_)));exact ⟨rfl,cgB (Option.some.inj h),(by repeat (first | exact (Keep.refl _ _ _ _) | refine Keep.upd ?_ rfl _))⟩
 rintro σ20 _ _ ⟨rfl,f22,k21⟩;refine k_mov f22 (k_nil (wpE_ret ?_));cases h
 exact e_ret (ct:=0) (.tmp rfl (back_sc rfl) .nil) rfl
theorem s138 {x0 : List uT4} {vx0 : IV} {x1 : (uT4 → Option Bool)} {fx1 : Nat} {kx1 : List IV} {r : Int} (hx0 : sv uR4 false vx0 x0) (hx1 : CK254 L fx1 kx1 x1) (h : uF138 x0 x1 = some r) : pc L 138 [.c (I vx0),.c (I (.clo fx1 kx1))] true (P138 r):=by
 refine fn_pure (fn:=ir138) rfl (nlt rfl) fun lent hl=>?_;unfold uF138 at h;refine e_reg (k_mov rfl (k_nil (wpE_seq (e_reg (k_mov rfl (k_len rfl (sv.any [] _ hx0) (k_mov rfl (k_nil (wpE_block ?_)))))))));refine gE fun σ1 e2=>?_;have f3 : σ1 0 = .v (.c ((I vx0))):=(congrFun e2 0).trans rfl;have f4 : σ1 1 = .v (.c (I (.clo fx1 kx1))):=(congrFun e2 1).trans rfl;have f5 : σ1 7 = V (.int .i64 ((List.length x0 : Int))):=(congrFun e2 7).trans rfl;have f6 : σ1 8 = V (.int .i64 ((0 : Int))):=(congrFun e2 8).trans rfl;obtain ⟨e7,h8,h⟩:=lret_e h;refine wpE_mono (e_loop h8 (I:=fun s σ' hp' _=>σ' 8 = V (.int .i64 s) ∧ Keep [4,5] 8 18 σ1 σ' ∧ [] = hp') (X:=fun e ex σ' hp' _=>match e with | .inl e=>ex = .exit 0 ∧ Keep [4,5] 8 18 σ1 σ' ∧ [] = hp' | .inr r=>ex = .ret ∧ ∀ ct,atEnd 19 [Res.tmp 4] (fin lent (P138 r)) .ret σ' hp' ct) ⟨f6,Keep.refl _ _ _ _,rfl⟩ ?_) ?_
 ·clear h
  rintro w9 o σ11 _ _ h ⟨f10,k13,rfl⟩;have h : uF138a x0 x1 w9 = some o:=h; unfold uF138a at h;have f15:=(k13 0 rfl).trans f3;have f16:=(k13 1 rfl).trans f4;have f17:=(k13 7 rfl).trans f5;refine e_reg (k_bin f10 f17 rfl (k_nil (wpE_seq (wpE_cond (p:=(decide (w9 < ((List.length x0 : Int))))) rfl (fun g18=>?_) (fun g18=>?_)))))
  ·have h:=ctrue h g18
   refine wpE_skip (wpE_seq (wpE_block (e_reg (k_mov f10 (k_mov rfl (k_nil (e_reg (k_mov f16 (k_mov f15 ?_)))))))));refine k_mov rfl ?_;obtain ⟨y19,e20,h⟩:=obind h;refine k_iadrL rfl (sv.any [] _ hx0) rfl e20 rfl fun p21 c22 q23 h24=>?_;obtain ⟨v25,v27,rfl,q26,q28⟩:=uR4.inv h24;refine k_loadL rfl q23 rfl ?_;obtain ⟨y29,e30,h⟩:=obind h;refine k_callv rfl (.cons rfl rfl .nil) (hx1 _ _ (uR4.mk (sv_retag q26) (sv_retag q28)) _ e30) (.inl rfl) ?_;rintro _ rfl;refine k_nil (wpE_cond (p:=y29) rfl (fun g31=>?_) (fun g31=>?_))
   ·have h:=ctrue h g31
    refine e_reg (k_mov rfl (k_mov rfl (k_nil (wpE_ret ?_))));cases h
    exact ⟨by decide,rfl,fun _=>e_ret (ct:=0) (.tmp rfl (back_sc rfl) .nil) rfl⟩
   ·have h:=cfalse h g31
    refine wpE_skip (e_last (k_bin f10 rfl rfl (k_mov rfl (k_nil ?_))));cases h
    exact ⟨rfl,rfl,(by repeat (first | exact k13 | refine Keep.upd ?_ rfl _)),rfl⟩
  ·have h:=cfalse h g18
   refine wpE_exit ?_;cases h
   exact ⟨by decide,rfl,(by repeat (first | exact k13 | refine Keep.upd ?_ rfl _)),rfl⟩
 rcases e7 with _ | r1;rotate_left
 ·rintro _ _ _ _ ⟨rfl,hX⟩
  cases h
  exact hX 0
 rintro _ σ32 _ _ ⟨rfl,k34,rfl⟩;refine e_reg (k_mov rfl (k_nil (wpE_ret ?_)));cases h
 exact e_ret (ct:=0) (.tmp rfl (back_sc rfl) .nil) rfl
theorem s200 {x0 : List uT4} {vx0 : IV} {x1 : (uT4 → Option Bool)} {fx1 : Nat} {kx1 : List IV} {r : Bool} (hx0 : sv uR4 false vx0 x0) (hx1 : CK254 L fx1 kx1 x1) (h : uF200 x0 x1 = some r) : pc L 200 [.c (I vx0),.c (I (.clo fx1 kx1))] true (P200 r):=by
 refine fn_pure (fn:=ir200) rfl (nlt rfl) fun lent hl=>?_;unfold uF200 at h;refine e_reg (k_mov rfl (k_nil (e_reg (k_mov rfl (k_mov rfl ?_)))));obtain ⟨y1,e2,h⟩:=obind h;refine k_call (.cons rfl rfl (.cons rfl rfl .nil)) (s138 (sv_retag hx0) hx1.re e2) (.inl rfl) ?_;rintro _ rfl;refine k_bin rfl rfl rfl (k_mov rfl ?_);obtain ⟨u4,e5,h⟩:=bnd_e h;refine k_nil (wpE_ret ?_);cases h
 exact e_ret (ct:=0) (.tmp (cgB e5) (back_sc rfl) .nil) rfl
theorem s201 {x0 : uT4} {cx0 : List IV} {x1 : List UInt8} {r : Bool} (hx0 : uR4.rp false cx0 x0) (h : uF201 x0 x1 = some r) : pc L 201 [.agg (cx0.map I),.c (I (.lp 1 [IV.str x1]))] true (P201 r):=by
 refine fn_pure (fn:=ir201) rfl (nlt rfl) fun lent hl=>?_;unfold uF201 at h;obtain ⟨v1,v3,rfl,q2,q4⟩:=uR4.inv hx0;refine e_reg (k_box rfl rfl fun g5 hp6 k7 r8=>?_);refine k_mov rfl (k_nil (e_reg (k_fadrB (o:=0) rfl k7 (k_loadB rfl k7 rfl (k_loadL rfl (ep_lp 1 [IV.str x1]) rfl (k_bin rfl rfl rfl (k_mov rfl ?_)))))));obtain ⟨u9,e10,h⟩:=bnd_e h;refine k_nil (wpE_ret ?_);cases h
 exact e_ret (ct:=0) (.tmp (cgB e10) (back_sc rfl) .nil) rfl
theorem s162 {x0 : uT3} {cx0 : List IV} {x1 : List UInt8} {r : Bool} (hx0 : uR3.rp false cx0 x0) (h : uF162 x0 x1 = some r) : pc L 162 [.agg (cx0.map I),.c (I (.str x1))] true (P162 r):=by
 refine fn_pure (fn:=ir162) rfl (nlt rfl) fun lent hl=>?_;unfold uF162 at h;obtain ⟨v1,v3,rfl,q2,q4⟩:=uR3.inv hx0;refine e_reg (k_box rfl rfl fun g5 hp6 k7 r8=>?_);refine k_box rfl rfl fun g9 hp10 k11 r12=>?_;have k13:=(r12 2 (by decide)).trans k7;refine k_mov rfl (k_nil (e_reg (k_loadB rfl k11 rfl (k_bin rfl rfl rfl (k_mov rfl (gL fun σ14 e15=>?_))))));have f16 : σ14 2 = .v (.c (.r (.ptr 2 g5 0))):=(congrFun e15 2).trans rfl;have f17 : σ14 3 = .v (.c (.r (.ptr 3 g9 0))):=(congrFun e15 3).trans rfl;have f18 : σ14 7 = V (.bool ((x1 == (([] : List UInt8))))):=(congrFun e15 7).trans rfl;obtain ⟨y23,e24,h⟩:=obind h;refine k_mid (fun σ' hp' _=>hp10 = hp' ∧ σ' 12 = V (.bool y23) ∧ Keep [] 8 12 σ14 σ') ?_ ?_
 ·rcases bt ((x1 == (([] : List UInt8)))) with g19 | g19
  ·have h:=ctrue e24 g19
   refine k_no (f18.trans (cgB g19)) rfl (k_no (f18.trans (cgB g19)) rfl (k_no (f18.trans (cgB g19)) rfl (k_no (f18.trans (cgB g19)) rfl (k_pickT (f18.trans (cgB g19)) rfl ?_))));exact ⟨rfl,cgB (Option.some.inj h),(by repeat (first | exact (Keep.refl _ _ _ _) | refine Keep.upd ?_ rfl _))⟩
  ·have h:=cfalse e24 g19
   refine k_yes (f18.trans (cgB g19)) (k_fadrB (o:=1) f16 k13 (k_yes (f18.trans (cgB g19)) (k_loadB rfl k13 rfl (k_yes (f18.trans (cgB g19)) (k_mkfn (f:=201) (.cons f17 rfl .nil) (k_yes (f18.trans (cgB g19)) ?_))))));obtain ⟨y20,e21,h⟩:=obind h;refine k_call (.cons rfl rfl (.cons rfl (lend_clo (.ptr (cs:=[IV.str x1]) k11 .nil)) .nil)) (s200 (sv_retag q4) (show CK254 L 201 [(.lp 1 [IV.str x1])] (fun a0=>uF201 a0 x1) from fun a0 b0 q0 r h=>s201 q0 h) e21) (.inl rfl) ?_;rintro _ rfl;refine k_pickF (f18.trans (cgB g19)) rfl ?_;exact ⟨rfl,cgB (Option.some.inj h),(by repeat (first | exact (Keep.refl _ _ _ _) | refine Keep.upd ?_ rfl _))⟩
 rintro σ25 _ _ ⟨rfl,f27,k26⟩;refine k_mov f27 (k_nil (wpE_ret ?_));cases h
 exact e_ret (ct:=0) (.tmp rfl (back_sc rfl) .nil) rfl
theorem s224 {x0 : List UInt8} {x1 : Int} {r : Int} (h : uF224 x0 x1 = some r) : pc L 224 [.c (I (.str x0)),.c (I (.int .u8 x1))] true (P224 r):=by
 cases h
 intro lent _;refine ⟨[.c (I (.int .i64 _))],?_,rfl⟩;unfold pureCall;rw [show L 224 _ [] = some ([.c (I (.int .i64 (Lib.indexByte x0 x1.toNat.toUInt8)))],[]) from lim_x rfl _ _ rfl];cases lent <;> rfl
theorem s191 {x0 : List UInt8} {x1 : Int} {r : Int}  (h : uF191 x0 x1 = some r) : pc L 191 [.c (I (.str x0)),.c (I (.int .u8 x1))] true (P191 r):=by
 refine fn_pure (fn:=ir191) rfl (nlt rfl) fun lent hl=>?_;unfold uF191 at h;refine e_reg (k_mov rfl (k_nil (e_reg (k_mov rfl (k_mov rfl ?_)))));obtain ⟨y1,e2,h⟩:=obind h;refine k_call (.cons rfl rfl (.cons rfl rfl .nil)) (s224  e2) (.inl rfl) ?_;rintro _ rfl;refine k_mov rfl (k_nil (wpE_ret ?_));cases h
 exact e_ret (ct:=0) (.tmp rfl (back_sc rfl) .nil) rfl
theorem s141 {x0 : List UInt8} {x1 : Int} {r : Int}  (h : uF141 x0 x1 = some r) : pc L 141 [.c (I (.str x0)),.c (I (.int .u8 x1))] true (P141 r):=by
 refine fn_pure (fn:=ir141) rfl (nlt rfl) fun lent hl=>?_;unfold uF141 at h;refine e_reg (k_mov rfl (k_nil (e_reg (k_mov rfl (k_mov rfl ?_)))));obtain ⟨y1,e2,h⟩:=obind h;refine k_call (.cons rfl rfl (.cons rfl rfl .nil)) (s191  e2) (.inl rfl) ?_;rintro _ rfl;refine k_mov rfl (k_nil (wpE_ret ?_));cases h
 exact e_ret (ct:=0) (.tmp rfl (back_sc rfl) .nil) rfl
theorem s155 {x0 : Int} {r : Int}  (h : uF155 x0 = some r) : pc L 155 [.c (I (.int .u8 x0))] true (P155 r):=by
 refine fn_pure (fn:=ir155) rfl (nlt rfl) fun lent hl=>?_;unfold uF155 at h;refine e_reg (k_mov rfl (k_nil (e_reg (k_mov rfl ?_))));obtain ⟨y1,e2,h⟩:=obind h;refine k_call (.cons rfl rfl (.cons rfl rfl .nil)) (s141  e2) (.inl rfl) ?_;rintro _ rfl;obtain ⟨y4,e5,h⟩:=obind h;refine k_shl rfl rfl e5 (k_mov rfl (k_nil (wpE_ret ?_)));cases h
 exact e_ret (ct:=0) (.tmp rfl (back_sc rfl) .nil) rfl
theorem s188 {x0 : Int} {x1 : Int} {r : Int}  (h : uF188 x0 x1 = some r) : pc L 188 [.c (I (.int .u8 x0)),.c (I (.int .u8 x1))] true (P188 r):=by
 refine fn_pure (fn:=ir188) rfl (nlt rfl) fun lent hl=>?_;unfold uF188 at h;refine e_reg (k_mov rfl (k_nil (e_reg (k_mov rfl (k_nil (wpE_seq (e_reg (k_mov rfl (k_mov rfl ?_)))))))));refine k_nil (wpE_block (gE fun σ1 e2=>?_));have f3 : σ1 1 = V (.int .u8 x1):=(congrFun e2 1).trans rfl;have f4 : σ1 5 = V (.int .u16 ((0 : Int))):=(congrFun e2 5).trans rfl;have f5 : σ1 6 = V (.int .u8 x0):=(congrFun e2 6).trans rfl;obtain ⟨y25,h7,h⟩:=obind h;refine wpE_mono (e_loop h7 (I:=fun s σ' hp' _=>σ' 5 = V (.int .u16 s.1) ∧ σ' 6 = V (.int .u8 s.2) ∧ Keep [] 5 16 σ1 σ' ∧ [] = hp') (X:=fun e ex σ' hp' _=>ex = .exit 0 ∧ σ' 5 = V (.int .u16 e) ∧ Keep [] 5 16 σ1 σ' ∧ [] = hp') ⟨f4,f5,Keep.refl _ _ _ _,rfl⟩ ?_) ?_
 ·clear h
  rintro ⟨w8,w9⟩ o σ12 _ _ h ⟨f10,f11,k14,rfl⟩;have h : uF188a x1 w8 w9 = some o:=h; unfold uF188a at h;have f16:=(k14 1 rfl).trans f3;refine wpE_seq (e_reg (k_mov f11 (k_mov f16 (k_bin rfl rfl rfl (k_nil (wpE_cond (p:=(decide (w9 ≤ x1))) rfl (fun g17=>?_) (fun g17=>?_)))))))
  ·have h:=ctrue h g17
   refine wpE_skip (wpE_seq (wpE_block (e_last (k_mov f10 (k_mov f11 ?_)))));obtain ⟨y18,e19,h⟩:=obind h;refine k_call (.cons rfl rfl .nil) (s155  e19) (.inl rfl) ?_;rintro _ rfl;refine k_bin rfl rfl rfl (k_mov rfl ?_);obtain ⟨u21,e22,h⟩:=bnd_e h;refine k_nil (e_last (k_mov f11 (k_bin rfl rfl rfl (k_mov rfl ?_))));obtain ⟨u23,e24,h⟩:=bnd_e h;refine k_nil ?_;cases h
   exact ⟨rfl,(cgI e22),(cgI e24),(by repeat (first | exact k14 | refine Keep.upd ?_ rfl _)),rfl⟩
  ·have h:=cfalse h g17
   refine wpE_exit ?_;cases h
   exact ⟨by decide,rfl,f10,(by repeat (first | exact k14 | refine Keep.upd ?_ rfl _)),rfl⟩
 rintro _ σ26 _ _ ⟨rfl,f30,k28,rfl⟩;refine e_reg (k_mov f30 (k_mov rfl (k_nil (wpE_ret ?_))));cases h
 exact e_ret (ct:=0) (.tmp rfl (back_sc rfl) .nil) rfl
theorem s222 {x0 : Int} {r : Int}  (h : uF222 x0 = some r) : pc L 222 [.c (I (.int .u16 x0))] true (P222 r):=by
 refine fn_pure (fn:=ir222) rfl (nlt rfl) fun lent hl=>?_;unfold uF222 at h;refine e_reg (k_mov rfl (k_nil (e_regD (by kernel_rfl) (by kernel_rfl) (k_mov rfl (k_bin rfl rfl rfl ?_)))));obtain ⟨y1,e2,h⟩:=obind h;refine k_idxS rfl rfl e2 (k_mov rfl (k_bin rfl rfl rfl ?_));obtain ⟨y3,e4,h⟩:=obind h;refine k_idxS rfl rfl e4 (k_bin rfl rfl rfl (k_cvI rfl (k_mov rfl ?_)));obtain ⟨u5,e6,h⟩:=bnd_e h;refine k_nil (wpE_ret ?_);cases h
 exact e_ret (ct:=0) (.tmp (cgI e6) (back_sc rfl) .nil) rfl
theorem s223 {x0 : Int} {r : List UInt8}  (h : uF223 x0 = some r) : pc L 223 [.c (I (.int .u16 x0))] true (P223 r):=by
 refine fn_pure (fn:=ir223) rfl (nlt rfl) fun lent hl=>?_;unfold uF223 at h;refine e_reg (k_mov rfl ?_);obtain ⟨u1,e2,h⟩:=bnd_e h;refine k_nil (e_reg (k_mov rfl ?_));obtain ⟨u3,e4,h⟩:=bnd_e h;refine k_nil (wpE_seq (e_reg (k_mov rfl (k_nil (wpE_block (gE fun σ5 e6=>?_))))));have f7 : σ5 0 = V (.int .u16 x0):=(congrFun e6 0).trans rfl;have f8 : σ5 3 = V (.str u3):=(congrFun e6 3).trans (cgS e4);have f9 : σ5 4 = V (.int .u8 ((48 : Int))):=(congrFun e6 4).trans rfl;obtain ⟨y120,h11,h⟩:=obind h;refine wpE_mono (e_loop h11 (I:=fun s σ' hp' _=>σ' 3 = V (.str s.1) ∧ σ' 4 = V (.int .u8 s.2) ∧ Keep [] 3 54 σ5 σ' ∧ [] = hp') (X:=fun e ex σ' hp' _=>ex = .exit 0 ∧ σ' 3 = V (.str e) ∧ Keep [] 3 54 σ5 σ' ∧ [] = hp') ⟨f8,f9,Keep.refl _ _ _ _,rfl⟩ ?_) ?_
 ·clear h
  rintro ⟨w12,w13⟩ o σ16 _ _ h ⟨f14,f15,k18,rfl⟩;have h : uF223a x0 w12 w13 = some o:=h; unfold uF223a at h;have f20:=(k18 0 rfl).trans f7;refine wpE_seq (e_reg (k_mov f15 (k_bin rfl rfl rfl (k_nil (wpE_cond (p:=(decide (w13 ≤ ((57 : Int))))) rfl (fun g21=>?_) (fun g21=>?_))))))
  ·have h:=ctrue h g21
   refine wpE_skip (wpE_seq (wpE_block (wpE_seq (e_reg (k_mov f20 (k_mov f15 ?_))))));obtain ⟨y22,e23,h⟩:=obind h;refine k_call (.cons rfl rfl .nil) (s155  e23) (.inl rfl) ?_;rintro _ rfl;refine k_bin rfl rfl rfl (k_bin rfl rfl rfl (k_nil (wpE_cond (p:=(((gand .u16 x0 y22)) == ((0 : Int)))) rfl (fun g25=>?_) (fun g25=>?_))))
   ·have h:=ctrue h g25
    refine wpE_exit (e_last (k_mov f15 (k_bin rfl rfl rfl (k_mov rfl ?_))));obtain ⟨u26,e27,h⟩:=bnd_e h;refine k_nil ?_;cases h
    exact ⟨rfl,f14,(cgI e27),(by repeat (first | exact k18 | refine Keep.upd ?_ rfl _)),rfl⟩
   ·have h:=cfalse h g25
    refine wpE_skip (e_reg (k_mov f15 (k_mov rfl (k_nil (wpE_seq (wpE_block (gE fun σ28 e29=>?_)))))));have k30 : Keep [] 3 54 σ5 σ28:=by rw [e29]; repeat (first | exact k18 | refine Keep.upd ?_ rfl _)
    have f31:=(congrFun e29 0).trans f20;have f32:=(congrFun e29 3).trans f14;have f33:=(congrFun e29 4).trans f15;have f34 : σ28 5 = V (.int .u8 w13):=(congrFun e29 5).trans rfl;obtain ⟨y74,h36,h⟩:=obind h;refine wpE_mono (e_loop h36 (I:=fun s σ' hp' _=>σ' 5 = V (.int .u8 s) ∧ Keep [] 5 27 σ28 σ' ∧ [] = hp') (X:=fun e ex σ' hp' _=>ex = .exit 2 ∧ σ' 5 = V (.int .u8 e) ∧ Keep [] 5 27 σ28 σ' ∧ [] = hp') ⟨f34,Keep.refl _ _ _ _,rfl⟩ ?_) ?_
    ·clear h
     rintro w37 o σ39 _ _ h ⟨f38,k41,rfl⟩;have h : uF223b x0 w37 = some o:=h; unfold uF223b at h;have f43:=(k41 0 rfl).trans f31;refine wpE_seq (e_reg (k_mov f38 (k_bin rfl rfl rfl (k_mov rfl (gL fun σ47 e48=>?_)))));have k50 : Keep [] 5 27 σ28 σ47:=by rw [e48]; repeat (first | exact k41 | refine Keep.upd ?_ rfl _)
     have f51:=(congrFun e48 0).trans f43;have f54:=(congrFun e48 5).trans f38;have f55 : σ47 18 = V (.bool ((decide (w37 < ((57 : Int)))))):=(congrFun e48 18).trans rfl;obtain ⟨y60,e61,h⟩:=obind h;refine k_mid (fun σ' hp' _=>[] = hp' ∧ σ' 25 = V (.bool y60) ∧ Keep [] 19 25 σ47 σ') ?_ ?_
     ·rcases bt ((decide (w37 < ((57 : Int))))) with g56 | g56
      ·have h:=ctrue e61 g56
       refine k_yes (f55.trans (cgB g56)) (k_mov f51 (k_yes (f55.trans (cgB g56)) (k_mov f54 (k_yes (f55.trans (cgB g56)) (k_bin rfl rfl rfl (k_yes (f55.trans (cgB g56)) ?_))))));obtain ⟨y57,e58,h⟩:=obind h;refine k_call (.cons rfl rfl .nil) (s155  e58) (.inl rfl) ?_;rintro _ rfl;refine k_yes (f55.trans (cgB g56)) (k_bin rfl rfl rfl (k_yes (f55.trans (cgB g56)) (k_bin rfl rfl rfl (k_pickT (f55.trans (cgB g56)) rfl ?_))));exact ⟨rfl,cgB (Option.some.inj h),(by repeat (first | exact (Keep.refl _ _ _ _) | refine Keep.upd ?_ rfl _))⟩
      ·have h:=cfalse e61 g56
       refine k_no (f55.trans (cgB g56)) rfl (k_no (f55.trans (cgB g56)) rfl (k_no (f55.trans (cgB g56)) rfl (k_no (f55.trans (cgB g56)) rfl (k_no (f55.trans (cgB g56)) rfl (k_no (f55.trans (cgB g56)) rfl (k_pickF (f55.trans (cgB g56)) rfl ?_))))));exact ⟨rfl,cgB (Option.some.inj h),(by repeat (first | exact (Keep.refl _ _ _ _) | refine Keep.upd ?_ rfl _))⟩
     rintro σ62 _ _ ⟨rfl,f64,k63⟩;have f68:=(k63 5 rfl).trans f54;have k70 : Keep [] 5 27 σ28 σ62:=Keep.trans k50 (Keep.sub k63 rfl);refine k_nil (wpE_cond (p:=y60) f64 (fun g71=>?_) (fun g71=>?_))
     ·have h:=ctrue h g71
      refine wpE_skip (wpE_block (e_last (k_mov f68 (k_bin rfl rfl rfl (k_mov rfl ?_)))));obtain ⟨u72,e73,h⟩:=bnd_e h;refine k_nil ?_;cases h
      exact ⟨rfl,(cgI e73),(by repeat (first | exact k70 | refine Keep.upd ?_ rfl _)),rfl⟩
     ·have h:=cfalse h g71
      refine wpE_exit ?_;cases h
      exact ⟨by decide,rfl,f68,(by repeat (first | exact k70 | refine Keep.upd ?_ rfl _)),rfl⟩
    rintro _ σ75 _ _ ⟨rfl,f79,k77,rfl⟩;have f81:=(k77 3 rfl).trans f32;have f82:=(k77 4 rfl).trans f33;have k83 : Keep [] 3 54 σ5 σ75:=Keep.trans k30 (Keep.sub k77 rfl);refine wpE_seq (wpE_block (e_reg (k_mov f79 (k_mov f82 (k_bin rfl rfl rfl (k_bin rfl rfl rfl (k_mov rfl ?_)))))));obtain ⟨u84,e85,h⟩:=bnd_e h;refine k_nil (gE fun σ86 e87=>?_);have k88 : Keep [] 3 54 σ5 σ86:=by rw [e87]; repeat (first | exact k83 | refine Keep.upd ?_ rfl _)
    have f90:=(congrFun e87 3).trans f81;have f91:=(congrFun e87 4).trans f82;have f92:=(congrFun e87 5).trans f79;have f93 : σ86 33 = V (.bool u84):=(congrFun e87 33).trans (cgB e85);obtain ⟨y96,h95,h⟩:=obind h;refine wpE_mono (Q:=fun ex σ' hp' _=>ex = .normal ∧ σ' 3 = V (.str y96) ∧ Keep [3] 28 53 σ86 σ' ∧ [] = hp') ?_ ?_
    ·clear h; have h:=h95
     refine wpE_cond (p:=u84) f93 (fun g97=>?_) (fun g97=>?_)
     ·have h:=ctrue h g97
      refine e_last (k_mov f90 (k_mov f91 (k_mov f92 (k_bslI (len:=3) (z:=IV.int .u8 ((0 : Int))) (vs:=[IV.int .u8 w13,IV.int .u8 ((45 : Int)),IV.int .u8 y74]) (.cons rfl (.cons rfl (.cons rfl .nil))) (by decide) rfl ?_))));have o98 : sv (Rep.int .u8) true (.lit 0 [IV.int .u8 w13,IV.int .u8 ((45 : Int)),IV.int .u8 y74] 3) ([w13,(45 : Int),y74] : List Int):=sv_lit true (⟨[IV.int .u8 w13],_,rfl,rfl,⟨[IV.int .u8 ((45 : Int))],_,rfl,rfl,⟨[IV.int .u8 y74],_,rfl,rfl,rfl⟩⟩⟩) rfl;refine k_cvBS rfl (sv.any [] _ o98) ?_;obtain ⟨y99,e100,h⟩:=obind h;refine k_sadd rfl rfl e100 (k_mov rfl (k_nil ?_));have q0:=Option.some.inj h;obtain rfl:=q0;exact ⟨rfl,rfl,(by repeat (first | exact (Keep.refl _ _ _ _) | refine Keep.upd ?_ rfl _)),rfl⟩
     ·have h:=cfalse h g97
      refine e_reg (k_mov f92 (k_mov f91 (k_bin rfl rfl rfl (k_mov rfl ?_))));obtain ⟨u101,e102,h⟩:=bnd_e h;refine k_nil (wpE_cond (p:=u101) (cgB e102) (fun g103=>?_) (fun g103=>?_))
      ·have h:=ctrue h g103
       refine e_last (k_mov f90 (k_mov f91 (k_mov f92 (k_bslI (len:=2) (z:=IV.int .u8 ((0 : Int))) (vs:=[IV.int .u8 w13,IV.int .u8 y74]) (.cons rfl (.cons rfl .nil)) (by decide) rfl ?_))));have o104 : sv (Rep.int .u8) true (.lit 0 [IV.int .u8 w13,IV.int .u8 y74] 2) ([w13,y74] : List Int):=sv_lit true (⟨[IV.int .u8 w13],_,rfl,rfl,⟨[IV.int .u8 y74],_,rfl,rfl,rfl⟩⟩) rfl;refine k_cvBS rfl (sv.any [] _ o104) ?_;obtain ⟨y105,e106,h⟩:=obind h;refine k_sadd rfl rfl e106 (k_mov rfl (k_nil ?_));have q0:=Option.some.inj h;obtain rfl:=q0;exact ⟨rfl,rfl,(by repeat (first | exact (Keep.refl _ _ _ _) | refine Keep.upd ?_ rfl _)),rfl⟩
      ·have h:=cfalse h g103
       refine e_last (k_mov f90 (k_mov f91 (k_bslI (len:=1) (z:=IV.int .u8 ((0 : Int))) (vs:=[IV.int .u8 w13]) (.cons rfl .nil) (by decide) rfl ?_)));have o107 : sv (Rep.int .u8) true (.lit 0 [IV.int .u8 w13] 1) ([w13] : List Int):=sv_lit true (⟨[IV.int .u8 w13],_,rfl,rfl,rfl⟩) rfl;refine k_cvBS rfl (sv.any [] _ o107) ?_;obtain ⟨y108,e109,h⟩:=obind h;refine k_sadd rfl rfl e109 (k_mov rfl (k_nil ?_));have q0:=Option.some.inj h;obtain rfl:=q0;exact ⟨rfl,rfl,(by repeat (first | exact (Keep.refl _ _ _ _) | refine Keep.upd ?_ rfl _)),rfl⟩
    rintro _ σ111 _ _ ⟨rfl,f110,k113,rfl⟩;have f116:=(k113 5 rfl).trans f92;have k117 : Keep [] 3 54 σ5 σ111:=Keep.trans k88 (Keep.sub k113 rfl);refine e_last (k_mov f116 (k_mov rfl (k_nil (e_last (k_mov rfl (k_bin rfl rfl rfl (k_mov rfl ?_)))))));obtain ⟨u118,e119,h⟩:=bnd_e h;refine k_nil ?_;cases h
    exact ⟨rfl,f110,(cgI e119),(by repeat (first | exact k117 | refine Keep.upd ?_ rfl _)),rfl⟩
  ·have h:=cfalse h g21
   refine wpE_exit ?_;cases h
   exact ⟨by decide,rfl,f14,(by repeat (first | exact k18 | refine Keep.upd ?_ rfl _)),rfl⟩
 rintro _ σ121 _ _ ⟨rfl,f125,k123,rfl⟩;refine e_reg (k_mov f125 (k_mov rfl (k_nil (wpE_ret ?_))));cases h
 exact e_ret (ct:=0) (.tmp rfl (back_sc rfl) .nil) rfl
theorem s189 {x0 : List UInt8} {r : Int × Int}  (h : uF189a x0 = some r) : pc L 189 [.c (I (.str x0))] true (P189 r):=by
 refine fn_pure (fn:=ir189) rfl (nlt rfl) fun lent hl=>?_;unfold uF189a at h;refine e_reg (k_mov rfl (k_mov rfl (k_nil (e_reg (k_mov rfl ?_)))));obtain ⟨y1,e2,h⟩:=obind h;refine k_call (.cons rfl rfl (.cons rfl rfl .nil)) (s141  e2) (.inl rfl) ?_;rintro _ rfl;refine k_mov rfl (k_nil (wpE_seq (e_reg (k_mov rfl (k_bin rfl rfl rfl (k_nil (wpE_cond (p:=(decide (y1 < ((0 : Int))))) rfl (fun g4=>?_) (fun g4=>?_))))))))
 ·have h:=ctrue h g4
  refine e_reg (k_mov rfl (k_mov rfl (k_nil (wpE_ret ?_))));cases h
  exact e_ret (ct:=0) (.tmp rfl (back_sc rfl) (.tmp rfl (back_sc rfl) .nil)) rfl
 ·have h:=cfalse h g4
  refine wpE_skip (e_reg (k_mov rfl (k_nil (wpE_seq (e_reg (k_mov rfl (k_nil (wpE_block (gE fun σ5 e6=>?_)))))))));have f7 : σ5 0 = V (.str x0):=(congrFun e6 0).trans rfl;have f8 : σ5 4 = V (.int .i64 y1):=(congrFun e6 4).trans rfl;have f9 : σ5 5 = V (.int .u16 ((0 : Int))):=(congrFun e6 5).trans rfl;have f10 : σ5 6 = V (.int .i64 ((0 : Int))):=(congrFun e6 6).trans rfl;obtain ⟨e11,h12,h⟩:=lret_e h;refine wpE_mono (e_loop h12 (I:=fun s σ' hp' _=>σ' 5 = V (.int .u16 s.1) ∧ σ' 6 = V (.int .i64 s.2) ∧ Keep [2,3] 5 64 σ5 σ' ∧ [] = hp') (X:=fun e ex σ' hp' _=>match e with | .inl e=>ex = .exit 0 ∧ σ' 5 = V (.int .u16 e) ∧ Keep [2,3] 5 64 σ5 σ' ∧ [] = hp' | .inr r=>ex = .ret ∧ ∀ ct,atEnd 94 [Res.tmp 2,Res.tmp 3] (fin lent (P189 r)) .ret σ' hp' ct) ⟨f9,f10,Keep.refl _ _ _ _,rfl⟩ ?_) ?_
  ·clear h
   rintro ⟨w13,w14⟩ o σ17 _ _ h ⟨f15,f16,k19,rfl⟩;have h : uF189 x0 y1 w13 w14 = some o:=h; unfold uF189 at h;have f21:=(k19 0 rfl).trans f7;have f22:=(k19 4 rfl).trans f8;refine wpE_seq (e_reg (k_mov f16 (k_mov f22 (k_bin rfl rfl rfl (k_nil (wpE_cond (p:=(decide (w14 < y1))) rfl (fun g23=>?_) (fun g23=>?_)))))))
   ·have h:=ctrue h g23
    refine wpE_skip (wpE_seq (wpE_block (e_reg (k_mov f21 (k_mov f16 ?_)))));obtain ⟨y24,e25,h⟩:=obind h;refine k_idxS rfl rfl e25 (k_mov rfl ?_);obtain ⟨u26,e27,h⟩:=bnd_e h;refine k_nil (wpE_seq (e_reg (k_mov (cgI e27) (k_bin rfl rfl rfl (k_mov rfl (gL fun σ28 e29=>?_))))));have k30 : Keep [2,3] 5 64 σ5 σ28:=by rw [e29]; repeat (first | exact k19 | refine Keep.upd ?_ rfl _)
    have f31:=(congrFun e29 0).trans f21;have f32:=(congrFun e29 4).trans f22;have f33:=(congrFun e29 5).trans f15;have f34:=(congrFun e29 6).trans f16;have f35 : σ28 7 = V (.int .u8 u26):=(congrFun e29 7).trans (cgI e27);have f36 : σ28 23 = V (.bool ((decide (u26 < ((48 : Int)))))):=(congrFun e29 23).trans rfl;refine k_mid (fun σ' hp' _=>[] = hp' ∧ σ' 26 = V (.bool (((decide (u26 < ((48 : Int)))) || (decide (u26 > ((57 : Int))))))) ∧ Keep [] 24 26 σ28 σ') ?_ ?_
    ·rcases bt ((decide (u26 < ((48 : Int))))) with g37 | g37
     ·refine k_no (f36.trans (cgB g37)) rfl ?_
      refine k_no (f36.trans (cgB g37)) rfl (k_pickT (f36.trans (cgB g37)) rfl ?_);exact ⟨rfl,cgB (by rw [g37]; rfl),(by repeat (first | exact (Keep.refl _ _ _ _) | refine Keep.upd ?_ rfl _))⟩
     ·refine k_yes (f36.trans (cgB g37)) ?_
      refine k_mov f35 (k_yes (f36.trans (cgB g37)) (k_bin rfl rfl rfl (k_pickF (f36.trans (cgB g37)) rfl ?_)));exact ⟨rfl,cgB (by rw [g37]; rfl),(by repeat (first | exact (Keep.refl _ _ _ _) | refine Keep.upd ?_ rfl _))⟩
    rintro σ38 _ _ ⟨rfl,f40,k39⟩;have f41:=(k39 0 rfl).trans f31;have f42:=(k39 4 rfl).trans f32;have f43:=(k39 5 rfl).trans f33;have f44:=(k39 6 rfl).trans f34;have f45:=(k39 7 rfl).trans f35;have k46 : Keep [2,3] 5 64 σ5 σ38:=Keep.trans k30 (Keep.sub k39 rfl);refine k_nil (wpE_cond (p:=((decide (u26 < ((48 : Int)))) || (decide (u26 > ((57 : Int)))))) f40 (fun g47=>?_) (fun g47=>?_))
    ·have h:=ctrue h g47
     refine e_reg (k_mov rfl (k_mov rfl (k_nil (wpE_ret ?_))));cases h
     exact ⟨by decide,rfl,fun _=>e_ret (ct:=0) (.tmp rfl (back_sc rfl) (.tmp rfl (back_sc rfl) .nil)) rfl⟩
    ·have h:=cfalse h g47
     refine wpE_skip (e_reg (k_mov f45 (k_mov rfl (k_nil (wpE_seq (e_reg (k_mov f44 (k_bin rfl rfl rfl (k_mov f42 ?_)))))))));refine k_bin rfl rfl rfl (k_mov rfl (gL fun σ48 e49=>?_));have k50 : Keep [2,3] 5 64 σ5 σ48:=by rw [e49]; repeat (first | exact k46 | refine Keep.upd ?_ rfl _)
     have f51:=(congrFun e49 0).trans f41;have f53:=(congrFun e49 5).trans f43;have f54:=(congrFun e49 6).trans f44;have f55:=(congrFun e49 7).trans f45;have f56 : σ48 8 = V (.int .u8 u26):=(congrFun e49 8).trans rfl;have f57 : σ48 32 = V (.bool ((decide (((IntKind.wrap .i64 (w14 + ((2 : Int))))) < y1)))):=(congrFun e49 32).trans rfl;obtain ⟨y61,e62,h⟩:=obind h;refine k_mid (fun σ' hp' _=>[] = hp' ∧ σ' 38 = V (.bool y61) ∧ Keep [] 33 38 σ48 σ') ?_ ?_
     ·rcases bt ((decide (((IntKind.wrap .i64 (w14 + ((2 : Int))))) < y1))) with g58 | g58
      ·have h:=ctrue e62 g58
       refine k_yes (f57.trans (cgB g58)) (k_mov f51 (k_yes (f57.trans (cgB g58)) (k_mov f54 (k_yes (f57.trans (cgB g58)) (k_bin rfl rfl rfl (k_yes (f57.trans (cgB g58)) ?_))))));obtain ⟨y59,e60,h⟩:=obind h;refine k_idxS rfl rfl e60 (k_yes (f57.trans (cgB g58)) (k_bin rfl rfl rfl (k_pickT (f57.trans (cgB g58)) rfl ?_)));exact ⟨rfl,cgB (Option.some.inj h),(by repeat (first | exact (Keep.refl _ _ _ _) | refine Keep.upd ?_ rfl _))⟩
      ·have h:=cfalse e62 g58
       refine k_no (f57.trans (cgB g58)) rfl (k_no (f57.trans (cgB g58)) rfl (k_no (f57.trans (cgB g58)) rfl (k_no (f57.trans (cgB g58)) rfl (k_no (f57.trans (cgB g58)) rfl (k_pickF (f57.trans (cgB g58)) rfl ?_)))));exact ⟨rfl,cgB (Option.some.inj h),(by repeat (first | exact (Keep.refl _ _ _ _) | refine Keep.upd ?_ rfl _))⟩
     rintro σ63 _ _ ⟨rfl,f65,k64⟩;have f66:=(k64 0 rfl).trans f51;have f68:=(k64 5 rfl).trans f53;have f69:=(k64 6 rfl).trans f54;have f70:=(k64 7 rfl).trans f55;have f71:=(k64 8 rfl).trans f56;have k72 : Keep [2,3] 5 64 σ5 σ63:=Keep.trans k50 (Keep.sub k64 rfl);refine k_mov f65 (gL fun σ73 e74=>?_);have k75 : Keep [2,3] 5 64 σ5 σ73:=by rw [e74]; repeat (first | exact k72 | refine Keep.upd ?_ rfl _)
     have f76:=(congrFun e74 0).trans f66;have f78:=(congrFun e74 5).trans f68;have f79:=(congrFun e74 6).trans f69;have f80:=(congrFun e74 7).trans f70;have f81:=(congrFun e74 8).trans f71;have f82 : σ73 39 = V (.bool y61):=(congrFun e74 39).trans rfl;obtain ⟨y86,e87,h⟩:=obind h;refine k_mid (fun σ' hp' _=>[] = hp' ∧ σ' 46 = V (.bool y86) ∧ Keep [] 40 46 σ73 σ') ?_ ?_
     ·rcases bt y61 with g83 | g83
      ·have h:=ctrue e87 g83
       refine k_yes (f82.trans (cgB g83)) (k_mov f76 (k_yes (f82.trans (cgB g83)) (k_mov f79 (k_yes (f82.trans (cgB g83)) (k_bin rfl rfl rfl (k_yes (f82.trans (cgB g83)) ?_))))));obtain ⟨y84,e85,h⟩:=obind h;refine k_idxS rfl rfl e85 (k_yes (f82.trans (cgB g83)) (k_mov f80 (k_yes (f82.trans (cgB g83)) (k_bin rfl rfl rfl (k_pickT (f82.trans (cgB g83)) rfl ?_)))));exact ⟨rfl,cgB (Option.some.inj h),(by repeat (first | exact (Keep.refl _ _ _ _) | refine Keep.upd ?_ rfl _))⟩
      ·have h:=cfalse e87 g83
       refine k_no (f82.trans (cgB g83)) rfl (k_no (f82.trans (cgB g83)) rfl (k_no (f82.trans (cgB g83)) rfl (k_no (f82.trans (cgB g83)) rfl (k_no (f82.trans (cgB g83)) rfl (k_no (f82.trans (cgB g83)) rfl (k_pickF (f82.trans (cgB g83)) rfl ?_))))));exact ⟨rfl,cgB (Option.some.inj h),(by repeat (first | exact (Keep.refl _ _ _ _) | refine Keep.upd ?_ rfl _))⟩
     rintro σ88 _ _ ⟨rfl,f90,k89⟩;have f91:=(k89 0 rfl).trans f76;have f93:=(k89 5 rfl).trans f78;have f94:=(k89 6 rfl).trans f79;have f95:=(k89 7 rfl).trans f80;have f96:=(k89 8 rfl).trans f81;have k97 : Keep [2,3] 5 64 σ5 σ88:=Keep.trans k75 (Keep.sub k89 rfl);refine k_mov f90 (gL fun σ98 e99=>?_);have k100 : Keep [2,3] 5 64 σ5 σ98:=by rw [e99]; repeat (first | exact k97 | refine Keep.upd ?_ rfl _)
     have f101:=(congrFun e99 0).trans f91;have f103:=(congrFun e99 5).trans f93;have f104:=(congrFun e99 6).trans f94;have f105:=(congrFun e99 7).trans f95;have f106:=(congrFun e99 8).trans f96;have f107 : σ98 47 = V (.bool y86):=(congrFun e99 47).trans rfl;obtain ⟨y111,e112,h⟩:=obind h;refine k_mid (fun σ' hp' _=>[] = hp' ∧ σ' 53 = V (.bool y111) ∧ Keep [] 48 53 σ98 σ') ?_ ?_
     ·rcases bt y86 with g108 | g108
      ·have h:=ctrue e112 g108
       refine k_yes (f107.trans (cgB g108)) (k_mov f101 (k_yes (f107.trans (cgB g108)) (k_mov f104 (k_yes (f107.trans (cgB g108)) (k_bin rfl rfl rfl (k_yes (f107.trans (cgB g108)) ?_))))));obtain ⟨y109,e110,h⟩:=obind h;refine k_idxS rfl rfl e110 (k_yes (f107.trans (cgB g108)) (k_bin rfl rfl rfl (k_pickT (f107.trans (cgB g108)) rfl ?_)));exact ⟨rfl,cgB (Option.some.inj h),(by repeat (first | exact (Keep.refl _ _ _ _) | refine Keep.upd ?_ rfl _))⟩
      ·have h:=cfalse e112 g108
       refine k_no (f107.trans (cgB g108)) rfl (k_no (f107.trans (cgB g108)) rfl (k_no (f107.trans (cgB g108)) rfl (k_no (f107.trans (cgB g108)) rfl (k_no (f107.trans (cgB g108)) rfl (k_pickF (f107.trans (cgB g108)) rfl ?_)))));exact ⟨rfl,cgB (Option.some.inj h),(by repeat (first | exact (Keep.refl _ _ _ _) | refine Keep.upd ?_ rfl _))⟩
     rintro σ113 _ _ ⟨rfl,f115,k114⟩;have f116:=(k114 0 rfl).trans f101;have f118:=(k114 5 rfl).trans f103;have f119:=(k114 6 rfl).trans f104;have f120:=(k114 7 rfl).trans f105;have f121:=(k114 8 rfl).trans f106;have k122 : Keep [2,3] 5 64 σ5 σ113:=Keep.trans k100 (Keep.sub k114 rfl);refine k_nil (gE fun σ123 e124=>?_);have k125 : Keep [2,3] 5 64 σ5 σ123:=by rw [e124]; repeat (first | exact k122 | refine Keep.upd ?_ rfl _)
     have f126:=(congrFun e124 0).trans f116;have f128:=(congrFun e124 5).trans f118;have f129:=(congrFun e124 6).trans f119;have f130:=(congrFun e124 7).trans f120;have f131:=(congrFun e124 8).trans f121;have f132:=(congrFun e124 53).trans f115;obtain ⟨⟨y135,y136⟩,h134,h⟩:=obind h;refine wpE_mono (Q:=fun ex σ' hp' _=>ex = .normal ∧ σ' 6 = V (.int .i64 y135) ∧ σ' 8 = V (.int .u8 y136) ∧ Keep [6] 8 59 σ123 σ' ∧ [] = hp') ?_ ?_
     ·clear h; have h:=h134
      refine wpE_cond (p:=y111) f132 (fun g137=>?_) (fun g137=>?_)
      ·have h:=ctrue h g137
       refine e_reg (k_mov f126 (k_mov f129 (k_bin rfl rfl rfl ?_)));obtain ⟨y138,e139,h⟩:=obind h;refine k_idxS rfl rfl e139 (k_mov rfl (k_nil (e_last (k_mov f129 (k_bin rfl rfl rfl (k_mov rfl ?_))))));obtain ⟨u140,e141,h⟩:=bnd_e h;refine k_nil ?_;have q0:=Option.some.inj h;obtain ⟨rfl,q1⟩:=Prod.mk.inj q0;obtain rfl:=q1;exact ⟨rfl,(cgI e141),rfl,(by repeat (first | exact (Keep.refl _ _ _ _) | refine Keep.upd ?_ rfl _)),rfl⟩
      ·have h:=cfalse h g137
       refine wpE_skip ?_;have q0:=Option.some.inj h;obtain ⟨rfl,q1⟩:=Prod.mk.inj q0;obtain rfl:=q1;exact ⟨rfl,f129,f131,(by repeat (first | exact (Keep.refl _ _ _ _) | refine Keep.upd ?_ rfl _)),rfl⟩
     rintro _ σ144 _ _ ⟨rfl,f142,f143,k146,rfl⟩;have f150:=(k146 5 rfl).trans f128;have f151:=(k146 7 rfl).trans f130;have k152 : Keep [2,3] 5 64 σ5 σ144:=Keep.trans k125 (Keep.sub k146 rfl);refine e_last (k_mov f150 (k_mov f151 (k_mov f143 ?_)));obtain ⟨y153,e154,h⟩:=obind h;refine k_call (.cons rfl rfl (.cons rfl rfl .nil)) (s188  e154) (.inl rfl) ?_;rintro _ rfl;refine k_bin rfl rfl rfl (k_mov rfl ?_);obtain ⟨u156,e157,h⟩:=bnd_e h;refine k_nil (e_last (k_mov f142 (k_bin rfl rfl rfl (k_mov rfl ?_))));obtain ⟨u158,e159,h⟩:=bnd_e h;refine k_nil ?_;cases h
     exact ⟨rfl,(cgI e157),(cgI e159),(by repeat (first | exact k152 | refine Keep.upd ?_ rfl _)),rfl⟩
   ·have h:=cfalse h g23
    refine wpE_exit ?_;cases h
    exact ⟨by decide,rfl,f15,(by repeat (first | exact k19 | refine Keep.upd ?_ rfl _)),rfl⟩
  rcases e11 with y160 | r1;rotate_left
  ·rintro _ _ _ _ ⟨rfl,hX⟩
   cases h
   exact hX 0
  rintro _ σ161 _ _ ⟨rfl,f165,k163,rfl⟩;have f166:=(k163 0 rfl).trans f7;have f167:=(k163 4 rfl).trans f8;refine wpE_seq (e_regD (by kernel_rfl) (by kernel_rfl) (k_mov f165 ?_));obtain ⟨y168,e169,h⟩:=obind h;refine k_call (.cons rfl rfl .nil) (s222  e169) (.inl rfl) ?_;rintro _ rfl;refine k_bin rfl rfl rfl (k_mov rfl (gL fun σ171 e172=>?_));have f173:=(congrFun e172 0).trans f166;have f174:=(congrFun e172 4).trans f167;have f175:=(congrFun e172 5).trans f165;have f176 : σ171 68 = V (.bool ((decide (y168 < ((2 : Int)))))):=(congrFun e172 68).trans rfl;obtain ⟨y181,e182,h⟩:=obind h;refine k_mid (fun σ' hp' _=>[] = hp' ∧ σ' 72 = V (.bool y181) ∧ Keep [] 69 72 σ171 σ') ?_ ?_
  ·rcases bt ((decide (y168 < ((2 : Int))))) with g177 | g177
   ·have h:=ctrue e182 g177
    refine k_no (f176.trans (cgB g177)) rfl (k_no (f176.trans (cgB g177)) rfl (k_no (f176.trans (cgB g177)) rfl (k_pickT (f176.trans (cgB g177)) rfl ?_)));exact ⟨rfl,cgB (Option.some.inj h),(by repeat (first | exact (Keep.refl _ _ _ _) | refine Keep.upd ?_ rfl _))⟩
   ·have h:=cfalse e182 g177
    refine k_yes (f176.trans (cgB g177)) (k_mov f175 (k_yes (f176.trans (cgB g177)) ?_));obtain ⟨y178,e179,h⟩:=obind h;refine k_call (.cons rfl rfl (.cons rfl rfl .nil)) (s188  e179) (.inl rfl) ?_;rintro _ rfl;refine k_yes (f176.trans (cgB g177)) (k_bin rfl rfl rfl (k_pickF (f176.trans (cgB g177)) rfl ?_));exact ⟨rfl,cgB (Option.some.inj h),(by repeat (first | exact (Keep.refl _ _ _ _) | refine Keep.upd ?_ rfl _))⟩
  rintro σ183 _ _ ⟨rfl,f185,k184⟩;have f186:=(k184 0 rfl).trans f173;have f187:=(k184 4 rfl).trans f174;have f188:=(k184 5 rfl).trans f175;refine k_mov f185 (gL fun σ189 e190=>?_);have f191:=(congrFun e190 0).trans f186;have f192:=(congrFun e190 4).trans f187;have f193:=(congrFun e190 5).trans f188;have f194 : σ189 73 = V (.bool y181):=(congrFun e190 73).trans rfl;obtain ⟨y199,e200,h⟩:=obind h;refine k_mid (fun σ' hp' _=>[] = hp' ∧ σ' 77 = V (.bool y199) ∧ Keep [] 74 77 σ189 σ') ?_ ?_
  ·rcases bt y181 with g195 | g195
   ·have h:=ctrue e200 g195
    refine k_no (f194.trans (cgB g195)) rfl (k_no (f194.trans (cgB g195)) rfl (k_no (f194.trans (cgB g195)) rfl (k_pickT (f194.trans (cgB g195)) rfl ?_)));exact ⟨rfl,cgB (Option.some.inj h),(by repeat (first | exact (Keep.refl _ _ _ _) | refine Keep.upd ?_ rfl _))⟩
   ·have h:=cfalse e200 g195
    refine k_yes (f194.trans (cgB g195)) (k_mov f193 (k_yes (f194.trans (cgB g195)) ?_));obtain ⟨y196,e197,h⟩:=obind h;refine k_call (.cons rfl rfl (.cons rfl rfl .nil)) (s188  e197) (.inl rfl) ?_;rintro _ rfl;refine k_yes (f194.trans (cgB g195)) (k_bin rfl rfl rfl (k_pickF (f194.trans (cgB g195)) rfl ?_));exact ⟨rfl,cgB (Option.some.inj h),(by repeat (first | exact (Keep.refl _ _ _ _) | refine Keep.upd ?_ rfl _))⟩
  rintro σ201 _ _ ⟨rfl,f203,k202⟩;have f204:=(k202 0 rfl).trans f191;have f205:=(k202 4 rfl).trans f192;have f206:=(k202 5 rfl).trans f193;refine k_mov f203 (gL fun σ207 e208=>?_);have f209:=(congrFun e208 0).trans f204;have f210:=(congrFun e208 4).trans f205;have f211:=(congrFun e208 5).trans f206;have f212 : σ207 78 = V (.bool y199):=(congrFun e208 78).trans rfl;obtain ⟨y217,e218,h⟩:=obind h;refine k_mid (fun σ' hp' _=>[] = hp' ∧ σ' 82 = V (.bool y217) ∧ Keep [] 79 82 σ207 σ') ?_ ?_
  ·rcases bt y199 with g213 | g213
   ·have h:=ctrue e218 g213
    refine k_no (f212.trans (cgB g213)) rfl (k_no (f212.trans (cgB g213)) rfl (k_no (f212.trans (cgB g213)) rfl (k_pickT (f212.trans (cgB g213)) rfl ?_)));exact ⟨rfl,cgB (Option.some.inj h),(by repeat (first | exact (Keep.refl _ _ _ _) | refine Keep.upd ?_ rfl _))⟩
   ·have h:=cfalse e218 g213
    refine k_yes (f212.trans (cgB g213)) (k_mov f211 (k_yes (f212.trans (cgB g213)) ?_));obtain ⟨y214,e215,h⟩:=obind h;refine k_call (.cons rfl rfl (.cons rfl rfl .nil)) (s188  e215) (.inl rfl) ?_;rintro _ rfl;refine k_yes (f212.trans (cgB g213)) (k_bin rfl rfl rfl (k_pickF (f212.trans (cgB g213)) rfl ?_));exact ⟨rfl,cgB (Option.some.inj h),(by repeat (first | exact (Keep.refl _ _ _ _) | refine Keep.upd ?_ rfl _))⟩
  rintro σ219 _ _ ⟨rfl,f221,k220⟩;have f222:=(k220 0 rfl).trans f209;have f223:=(k220 4 rfl).trans f210;have f224:=(k220 5 rfl).trans f211;refine k_mov f221 (gL fun σ225 e226=>?_);have f227:=(congrFun e226 0).trans f222;have f228:=(congrFun e226 4).trans f223;have f229:=(congrFun e226 5).trans f224;have f230 : σ225 83 = V (.bool y217):=(congrFun e226 83).trans rfl;obtain ⟨y237,e238,h⟩:=obind h;refine k_mid (fun σ' hp' _=>[] = hp' ∧ σ' 90 = V (.bool y237) ∧ Keep [] 84 90 σ225 σ') ?_ ?_
  ·rcases bt y217 with g231 | g231
   ·have h:=ctrue e238 g231
    refine k_no (f230.trans (cgB g231)) rfl (k_no (f230.trans (cgB g231)) rfl (k_no (f230.trans (cgB g231)) rfl (k_no (f230.trans (cgB g231)) rfl (k_no (f230.trans (cgB g231)) rfl (k_no (f230.trans (cgB g231)) rfl (k_pickT (f230.trans (cgB g231)) rfl ?_))))));exact ⟨rfl,cgB (Option.some.inj h),(by repeat (first | exact (Keep.refl _ _ _ _) | refine Keep.upd ?_ rfl _))⟩
   ·have h:=cfalse e238 g231
    refine k_yes (f230.trans (cgB g231)) (k_mov f229 (k_yes (f230.trans (cgB g231)) ?_));obtain ⟨y232,e233,h⟩:=obind h;refine k_call (.cons rfl rfl .nil) (s223  e233) (.inl rfl) ?_;rintro _ rfl;refine k_yes (f230.trans (cgB g231)) (k_mov f227 (k_yes (f230.trans (cgB g231)) (k_mov f228 (k_yes (f230.trans (cgB g231)) ?_))));obtain ⟨y235,e236,h⟩:=obind h;refine k_slcT rfl .none (.some rfl) e236 (k_yes (f230.trans (cgB g231)) (k_bin rfl rfl rfl (k_pickF (f230.trans (cgB g231)) rfl ?_)));exact ⟨rfl,cgB (Option.some.inj h),(by repeat (first | exact (Keep.refl _ _ _ _) | refine Keep.upd ?_ rfl _))⟩
  rintro σ239 _ _ ⟨rfl,f241,k240⟩;have f242:=(k240 4 rfl).trans f228;have f243:=(k240 5 rfl).trans f229;refine k_nil (wpE_cond (p:=y237) f241 (fun g244=>?_) (fun g244=>?_))
  ·have h:=ctrue h g244
   refine e_reg (k_mov rfl (k_mov rfl (k_nil (wpE_ret ?_))));cases h
   exact e_ret (ct:=0) (.tmp rfl (back_sc rfl) (.tmp rfl (back_sc rfl) .nil)) rfl
  ·have h:=cfalse h g244
   refine wpE_skip (e_reg (k_mov f243 (k_mov f242 (k_bin rfl rfl rfl (k_mov rfl (k_mov rfl ?_))))));obtain ⟨u245,e246,h⟩:=bnd_e h;refine k_nil (wpE_ret ?_);cases h
   exact e_ret (ct:=0) (.tmp rfl (back_sc rfl) (.tmp (cgI e246) (back_sc rfl) .nil)) rfl
theorem s137 {x0 : List UInt8} {r : Int × Int}  (h : uF137 x0 = some r) : pc L 137 [.c (I (.str x0))] true (P137 r):=by
 refine fn_pure (fn:=ir137) rfl (nlt rfl) fun lent hl=>?_;unfold uF137 at h;refine e_reg (k_mov rfl (k_mov rfl (k_nil (wpE_seq (e_reg (k_mov rfl ?_))))));obtain ⟨y1,e2,h⟩:=obind h;refine k_idxS rfl rfl e2 (k_mov rfl ?_);obtain ⟨u3,e4,h⟩:=bnd_e h;refine k_nil (wpE_block (e_reg (k_mov (cgI e4) (k_bin rfl rfl rfl (k_mov rfl ?_)))));obtain ⟨u5,e6,h⟩:=bnd_e h;refine k_nil (wpE_cond (p:=u5) (cgB e6) (fun g7=>?_) (fun g7=>?_))
 ·have h:=ctrue h g7
  refine e_reg ?_;obtain ⟨y8,e9,h⟩:=obind h;refine k_call (.cons rfl rfl (.cons rfl rfl .nil)) (s188  e9) (.inl rfl) ?_;rintro _ rfl;refine k_mov rfl (k_mov rfl (k_nil (wpE_ret ?_)));cases h
  exact e_ret (ct:=0) (.tmp rfl (back_sc rfl) (.tmp rfl (back_sc rfl) .nil)) rfl
 ·have h:=cfalse h g7
  refine e_reg (k_mov (cgI e4) (k_bin rfl rfl rfl (k_mov rfl ?_)));obtain ⟨u11,e12,h⟩:=bnd_e h;refine k_nil (wpE_cond (p:=u11) (cgB e12) (fun g13=>?_) (fun g13=>?_))
  ·have h:=ctrue h g13
   refine e_reg ?_;obtain ⟨y14,e15,h⟩:=obind h;refine k_call (.cons rfl rfl (.cons rfl rfl .nil)) (s188  e15) (.inl rfl) ?_;rintro _ rfl;refine k_mov rfl (k_mov rfl (k_nil (wpE_ret ?_)));cases h
   exact e_ret (ct:=0) (.tmp rfl (back_sc rfl) (.tmp rfl (back_sc rfl) .nil)) rfl
  ·have h:=cfalse h g13
   refine e_reg (k_mov (cgI e4) (k_bin rfl rfl rfl (k_mov rfl ?_)));obtain ⟨u17,e18,h⟩:=bnd_e h;refine k_nil (wpE_cond (p:=u17) (cgB e18) (fun g19=>?_) (fun g19=>?_))
   ·have h:=ctrue h g19
    refine e_reg ?_;obtain ⟨y20,e21,h⟩:=obind h;refine k_call (.cons rfl rfl (.cons rfl rfl .nil)) (s188  e21) (.inl rfl) ?_;rintro _ rfl;refine k_mov rfl (k_mov rfl (k_nil (wpE_ret ?_)));cases h
    exact e_ret (ct:=0) (.tmp rfl (back_sc rfl) (.tmp rfl (back_sc rfl) .nil)) rfl
   ·have h:=cfalse h g19
    refine e_reg (k_mov (cgI e4) (k_bin rfl rfl rfl (k_mov rfl ?_)));obtain ⟨u23,e24,h⟩:=bnd_e h;refine k_nil (wpE_cond (p:=u23) (cgB e24) (fun g25=>?_) (fun g25=>?_))
    ·have h:=ctrue h g25
     refine e_reg (k_mov rfl ?_);obtain ⟨y26,e27,h⟩:=obind h;refine k_slcT rfl (.some rfl) .none e27 ?_;obtain ⟨y28,e29,h⟩:=obind h;refine k_call (.cons rfl rfl .nil) (s189  e29) (.inl rfl) ?_;rintro _ rfl;refine k_movT rfl (k_ext rfl rfl (k_ext rfl rfl (k_mov rfl (k_mov rfl (k_nil (wpE_seq (e_reg (k_mov rfl (k_bin rfl rfl rfl ?_)))))))));refine k_nil (wpE_cond (p:=(y28.2 == ((0 : Int)))) rfl (fun g31=>?_) (fun g31=>?_))
     ·have h:=ctrue h g31
      refine e_reg (k_mov rfl (k_mov rfl (k_nil (wpE_ret ?_))));cases h
      exact e_ret (ct:=0) (.tmp rfl (back_sc rfl) (.tmp rfl (back_sc rfl) .nil)) rfl
     ·have h:=cfalse h g31
      refine wpE_skip (e_reg (k_mov rfl (k_mov rfl (k_bin rfl rfl rfl (k_mov rfl (k_mov rfl ?_))))));obtain ⟨u32,e33,h⟩:=bnd_e h;refine k_nil (wpE_ret ?_);cases h
      exact e_ret (ct:=0) (.tmp rfl (back_sc rfl) (.tmp (cgI e33) (back_sc rfl) .nil)) rfl
    ·have h:=cfalse h g25
     refine e_reg (k_mov (cgI e4) ?_);obtain ⟨y34,e35,h⟩:=obind h;refine k_call (.cons rfl rfl (.cons rfl rfl .nil)) (s141  e35) (.inl rfl) ?_;rintro _ rfl;refine k_bin rfl rfl rfl (k_mov rfl ?_);obtain ⟨u37,e38,h⟩:=bnd_e h;refine k_nil (wpE_cond (p:=u37) (cgB e38) (fun g39=>?_) (fun g39=>?_))
     ·have h:=ctrue h g39
      refine e_reg (k_mov (cgI e4) ?_);obtain ⟨y40,e41,h⟩:=obind h;refine k_call (.cons rfl rfl .nil) (s155  e41) (.inl rfl) ?_;rintro _ rfl;refine k_mov rfl (k_mov rfl (k_nil (wpE_ret ?_)));cases h
      exact e_ret (ct:=0) (.tmp rfl (back_sc rfl) (.tmp rfl (back_sc rfl) .nil)) rfl
     ·have h:=cfalse h g39
      refine wpE_skip (e_reg (k_mov rfl (k_mov rfl (k_nil (wpE_ret ?_)))));cases h
      exact e_ret (ct:=0) (.tmp rfl (back_sc rfl) (.tmp rfl (back_sc rfl) .nil)) rfl
end Go.Proofs.YtagbgmkocjfanaaGreatDoor
