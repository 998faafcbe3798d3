/-
 The small code of functions comes to the Lean functions. Printed by a program of mine.
-/
import Derived.Test.YtnpbglnfnhejiaaGreatDoorHM5Sa
namespace Go.Proofs.YtnpbglnfnhejiaaGreatDoor
open Go Go.Abs
set_option maxRecDepth 100000
set_option maxHeartbeats 8000000
variable {mx : Int}
theorem s57 {x0 : List UInt8} {r : Bool}  (h : uF57 x0 = some r) : pc (L mx) 57 [.c (I (.str x0))] true (P57 r):=by
 refine fn_pure (fn:=ir57) rfl (nlt rfl) fun lent hl=>?_;unfold uF57 at h;refine e_reg (k_mov rfl (k_nil (e_reg (k_mov rfl (k_lenS rfl (k_bin rfl rfl rfl (k_mov rfl (gL fun σ1 e2=>?_))))))));have f3 : σ1 0 = V (.str x0):=(congrFun e2 0).trans rfl;have f4 : σ1 6 = V (.bool ((decide (((List.length x0 : Int)) ≥ ((1 : Int)))))):=(congrFun e2 6).trans rfl;refine k_mid (fun σ' hp' _=>[] = hp' ∧ σ' 10 = V (.bool (((decide (((List.length x0 : Int)) ≥ ((1 : Int)))) && (decide (((List.length x0 : Int)) ≤ ((40 : Int))))))) ∧ Keep [] 7 10 σ1 σ') ?_ ?_
 ·rcases bt ((decide (((List.length x0 : Int)) ≥ ((1 : Int))))) with g5 | g5
  ·refine k_yes (f4.trans (cgB g5)) ?_
   refine k_mov f3 (k_yes (f4.trans (cgB g5)) (k_lenS rfl (k_yes (f4.trans (cgB g5)) (k_bin rfl rfl rfl (k_pickT (f4.trans (cgB g5)) rfl ?_)))));exact ⟨rfl,cgB (by rw [g5]; rfl),(by repeat (first | exact (Keep.refl _ _ _ _) | refine Keep.upd ?_ rfl _))⟩
  ·refine k_no (f4.trans (cgB g5)) rfl ?_
   refine k_no (f4.trans (cgB g5)) rfl (k_no (f4.trans (cgB g5)) rfl (k_pickF (f4.trans (cgB g5)) rfl ?_));exact ⟨rfl,cgB (by rw [g5]; rfl),(by repeat (first | exact (Keep.refl _ _ _ _) | refine Keep.upd ?_ rfl _))⟩
 rintro σ6 _ _ ⟨rfl,f8,k7⟩;have f9:=(k7 0 rfl).trans f3;refine k_mov f8 (gL fun σ10 e11=>?_);have f12:=(congrFun e11 0).trans f9;have f13 : σ10 11 = V (.bool (((decide (((List.length x0 : Int)) ≥ ((1 : Int)))) && (decide (((List.length x0 : Int)) ≤ ((40 : Int))))))):=(congrFun e11 11).trans rfl;obtain ⟨y17,e18,h⟩:=obind h;refine k_mid (fun σ' hp' _=>[] = hp' ∧ σ' 15 = V (.bool y17) ∧ Keep [] 12 15 σ10 σ') ?_ ?_
 ·rcases bt (((decide (((List.length x0 : Int)) ≥ ((1 : Int)))) && (decide (((List.length x0 : Int)) ≤ ((40 : Int)))))) with g14 | g14
  ·have h:=ctrue e18 g14
   refine k_yes (f13.trans (cgB g14)) (k_mov f12 (k_yes (f13.trans (cgB g14)) ?_));obtain ⟨y15,e16,h⟩:=obind h;refine k_idxS rfl rfl e16 (k_yes (f13.trans (cgB g14)) (k_bin rfl rfl rfl (k_pickT (f13.trans (cgB g14)) rfl ?_)));exact ⟨rfl,cgB (Option.some.inj h),(by repeat (first | exact (Keep.refl _ _ _ _) | refine Keep.upd ?_ rfl _))⟩
  ·have h:=cfalse e18 g14
   refine k_no (f13.trans (cgB g14)) rfl (k_no (f13.trans (cgB g14)) rfl (k_no (f13.trans (cgB g14)) rfl (k_pickF (f13.trans (cgB g14)) rfl ?_)));exact ⟨rfl,cgB (Option.some.inj h),(by repeat (first | exact (Keep.refl _ _ _ _) | refine Keep.upd ?_ rfl _))⟩
 rintro σ19 _ _ ⟨rfl,f21,k20⟩;have f22:=(k20 0 rfl).trans f12;refine k_mov f21 (gL fun σ23 e24=>?_);have f25:=(congrFun e24 0).trans f22;have f26 : σ23 16 = V (.bool y17):=(congrFun e24 16).trans rfl;obtain ⟨y30,e31,h⟩:=obind h;refine k_mid (fun σ' hp' _=>[] = hp' ∧ σ' 20 = V (.bool y30) ∧ Keep [] 17 20 σ23 σ') ?_ ?_
 ·rcases bt y17 with g27 | g27
  ·have h:=ctrue e31 g27
   refine k_yes (f26.trans (cgB g27)) (k_mov f25 (k_yes (f26.trans (cgB g27)) ?_));obtain ⟨y28,e29,h⟩:=obind h;refine k_idxS rfl rfl e29 (k_yes (f26.trans (cgB g27)) (k_bin rfl rfl rfl (k_pickT (f26.trans (cgB g27)) rfl ?_)));exact ⟨rfl,cgB (Option.some.inj h),(by repeat (first | exact (Keep.refl _ _ _ _) | refine Keep.upd ?_ rfl _))⟩
  ·have h:=cfalse e31 g27
   refine k_no (f26.trans (cgB g27)) rfl (k_no (f26.trans (cgB g27)) rfl (k_no (f26.trans (cgB g27)) rfl (k_pickF (f26.trans (cgB g27)) rfl ?_)));exact ⟨rfl,cgB (Option.some.inj h),(by repeat (first | exact (Keep.refl _ _ _ _) | refine Keep.upd ?_ rfl _))⟩
 rintro σ32 _ _ ⟨rfl,f34,k33⟩;have f35:=(k33 0 rfl).trans f25;refine k_mov f34 (gL fun σ36 e37=>?_);have f38:=(congrFun e37 0).trans f35;have f39 : σ36 21 = V (.bool y30):=(congrFun e37 21).trans rfl;obtain ⟨y44,e45,h⟩:=obind h;refine k_mid (fun σ' hp' _=>[] = hp' ∧ σ' 25 = V (.bool y44) ∧ Keep [] 22 25 σ36 σ') ?_ ?_
 ·rcases bt y30 with g40 | g40
  ·have h:=ctrue e45 g40
   refine k_yes (f39.trans (cgB g40)) (k_mov f38 (k_yes (f39.trans (cgB g40)) ?_));obtain ⟨y41,e42,h⟩:=obind h;refine k_call (.cons rfl rfl (.cons rfl rfl .nil)) (s41  e42) (.inl rfl) ?_;rintro _ rfl;refine k_yes (f39.trans (cgB g40)) (k_bin rfl rfl rfl (k_pickT (f39.trans (cgB g40)) rfl ?_));exact ⟨rfl,cgB (Option.some.inj h),(by repeat (first | exact (Keep.refl _ _ _ _) | refine Keep.upd ?_ rfl _))⟩
  ·have h:=cfalse e45 g40
   refine k_no (f39.trans (cgB g40)) rfl (k_no (f39.trans (cgB g40)) rfl (k_no (f39.trans (cgB g40)) rfl (k_pickF (f39.trans (cgB g40)) rfl ?_)));exact ⟨rfl,cgB (Option.some.inj h),(by repeat (first | exact (Keep.refl _ _ _ _) | refine Keep.upd ?_ rfl _))⟩
 rintro σ46 _ _ ⟨rfl,f48,k47⟩;refine k_mov f48 (k_nil (wpE_ret ?_));cases h
 exact e_ret (ct:=0) (.tmp rfl (back_sc rfl) .nil) rfl
theorem s59 {x0 : Int} {r : Bool}  (h : uF59 x0 = some r) : pc (L mx) 59 [.c (I (.int .i64 x0))] true (P59 r):=by
 refine fn_pure (fn:=ir59) rfl (nlt rfl) fun lent hl=>?_;unfold uF59 at h;refine e_reg (k_mov rfl (k_nil (e_reg (k_mov rfl (k_bin rfl rfl rfl (k_mov rfl (gL fun σ1 e2=>?_)))))));have f3 : σ1 0 = V (.int .i64 x0):=(congrFun e2 0).trans rfl;have f4 : σ1 5 = V (.bool ((decide (x0 ≥ ((0 : Int)))))):=(congrFun e2 5).trans rfl;refine k_mid (fun σ' hp' _=>[] = hp' ∧ σ' 8 = V (.bool (((decide (x0 ≥ ((0 : Int)))) && (decide (x0 < ((345686400000 : Int))))))) ∧ Keep [] 6 8 σ1 σ') ?_ ?_
 ·rcases bt ((decide (x0 ≥ ((0 : Int))))) with g5 | g5
  ·refine k_yes (f4.trans (cgB g5)) ?_
   refine k_mov f3 (k_yes (f4.trans (cgB g5)) (k_bin rfl rfl rfl (k_pickT (f4.trans (cgB g5)) rfl ?_)));exact ⟨rfl,cgB (by rw [g5]; rfl),(by repeat (first | exact (Keep.refl _ _ _ _) | refine Keep.upd ?_ rfl _))⟩
  ·refine k_no (f4.trans (cgB g5)) rfl ?_
   refine k_no (f4.trans (cgB g5)) rfl (k_pickF (f4.trans (cgB g5)) rfl ?_);exact ⟨rfl,cgB (by rw [g5]; rfl),(by repeat (first | exact (Keep.refl _ _ _ _) | refine Keep.upd ?_ rfl _))⟩
 rintro σ6 _ _ ⟨rfl,f8,k7⟩;refine k_mov f8 ?_;obtain ⟨u9,e10,h⟩:=bnd_e h;refine k_nil (wpE_ret ?_);cases h
 exact e_ret (ct:=0) (.tmp (cgB e10) (back_sc rfl) .nil) rfl
theorem s118 {x0 : Int} {x1 : Int} {x2 : Int} {r : Bool}  (h : uF118 x0 x1 x2 = some r) : pc (L mx) 118 [.c (I (.int .i64 x0)),.c (I (.int .i64 x1)),.c (I (.int .i64 x2))] true (P118 r):=by
 refine fn_pure (fn:=ir118) rfl (nlt rfl) fun lent hl=>?_;unfold uF118 at h;refine e_reg (k_mov rfl (k_nil (e_reg (k_mov rfl (k_mov rfl (k_bin rfl rfl rfl (k_mov rfl (gL fun σ1 e2=>?_))))))));have f3 : σ1 0 = V (.int .i64 x0):=(congrFun e2 0).trans rfl;have f4 : σ1 2 = V (.int .i64 x2):=(congrFun e2 2).trans rfl;have f5 : σ1 10 = V (.bool ((decide (x0 ≥ x1)))):=(congrFun e2 10).trans rfl;refine k_mid (fun σ' hp' _=>[] = hp' ∧ σ' 14 = V (.bool (((decide (x0 ≥ x1)) && (decide (x0 ≤ x2))))) ∧ Keep [] 11 14 σ1 σ') ?_ ?_
 ·rcases bt ((decide (x0 ≥ x1))) with g6 | g6
  ·refine k_yes (f5.trans (cgB g6)) ?_
   refine k_mov f3 (k_yes (f5.trans (cgB g6)) (k_mov f4 (k_yes (f5.trans (cgB g6)) (k_bin rfl rfl rfl (k_pickT (f5.trans (cgB g6)) rfl ?_)))));exact ⟨rfl,cgB (by rw [g6]; rfl),(by repeat (first | exact (Keep.refl _ _ _ _) | refine Keep.upd ?_ rfl _))⟩
  ·refine k_no (f5.trans (cgB g6)) rfl ?_
   refine k_no (f5.trans (cgB g6)) rfl (k_no (f5.trans (cgB g6)) rfl (k_pickF (f5.trans (cgB g6)) rfl ?_));exact ⟨rfl,cgB (by rw [g6]; rfl),(by repeat (first | exact (Keep.refl _ _ _ _) | refine Keep.upd ?_ rfl _))⟩
 rintro σ7 _ _ ⟨rfl,f9,k8⟩;refine k_mov f9 ?_;obtain ⟨u10,e11,h⟩:=bnd_e h;refine k_nil (wpE_ret ?_);cases h
 exact e_ret (ct:=0) (.tmp (cgB e11) (back_sc rfl) .nil) rfl
theorem s85 {x0 : List UInt8} {x1 : List UInt8} {r : Bool}  (h : uF85 x0 x1 = some r) : pc (L mx) 85 [.c (I (.str x0)),.c (I (.str x1))] true (P85 r):=by
 refine fn_pure (fn:=ir85) rfl (nlt rfl) fun lent hl=>?_;unfold uF85 at h;refine e_reg (k_mov rfl (k_nil (e_reg (k_mov rfl (k_lenS rfl (k_mov rfl (k_lenS rfl (k_bin rfl rfl rfl (k_mov rfl ?_)))))))));refine gL fun σ1 e2=>?_;have f3 : σ1 0 = V (.str x0):=(congrFun e2 0).trans rfl;have f4 : σ1 1 = V (.str x1):=(congrFun e2 1).trans rfl;have f5 : σ1 10 = V (.bool ((decide (((List.length x0 : Int)) ≥ ((List.length x1 : Int)))))):=(congrFun e2 10).trans rfl;obtain ⟨y9,e10,h⟩:=obind h;refine k_mid (fun σ' hp' _=>[] = hp' ∧ σ' 17 = V (.bool y9) ∧ Keep [] 11 17 σ1 σ') ?_ ?_
 ·rcases bt ((decide (((List.length x0 : Int)) ≥ ((List.length x1 : Int))))) with g6 | g6
  ·have h:=ctrue e10 g6
   refine k_yes (f5.trans (cgB g6)) (k_mov f3 (k_yes (f5.trans (cgB g6)) (k_mov f4 (k_yes (f5.trans (cgB g6)) (k_lenS rfl (k_yes (f5.trans (cgB g6)) ?_))))));obtain ⟨y7,e8,h⟩:=obind h;refine k_slcT rfl .none (.some rfl) e8 (k_yes (f5.trans (cgB g6)) (k_mov f4 (k_yes (f5.trans (cgB g6)) (k_bin rfl rfl rfl (k_pickT (f5.trans (cgB g6)) rfl ?_)))));exact ⟨rfl,cgB (Option.some.inj h),(by repeat (first | exact (Keep.refl _ _ _ _) | refine Keep.upd ?_ rfl _))⟩
  ·have h:=cfalse e10 g6
   refine k_no (f5.trans (cgB g6)) rfl (k_no (f5.trans (cgB g6)) rfl (k_no (f5.trans (cgB g6)) rfl (k_no (f5.trans (cgB g6)) rfl (k_no (f5.trans (cgB g6)) rfl (k_no (f5.trans (cgB g6)) rfl (k_pickF (f5.trans (cgB g6)) rfl ?_))))));exact ⟨rfl,cgB (Option.some.inj h),(by repeat (first | exact (Keep.refl _ _ _ _) | refine Keep.upd ?_ rfl _))⟩
 rintro σ11 _ _ ⟨rfl,f13,k12⟩;refine k_mov f13 (k_nil (wpE_ret ?_));cases h
 exact e_ret (ct:=0) (.tmp rfl (back_sc rfl) .nil) rfl
theorem s38 {x0 : List UInt8} {x1 : List UInt8} {r : Bool}  (h : uF38 x0 x1 = some r) : pc (L mx) 38 [.c (I (.str x0)),.c (I (.str x1))] true (P38 r):=by
 refine fn_pure (fn:=ir38) rfl (nlt rfl) fun lent hl=>?_;unfold uF38 at h;refine e_reg (k_mov rfl (k_nil (e_reg (k_mov rfl (k_mov rfl ?_)))));obtain ⟨y1,e2,h⟩:=obind h;refine k_call (.cons rfl rfl (.cons rfl rfl .nil)) (s85  e2) (.inl rfl) ?_;rintro _ rfl;refine k_mov rfl (k_nil (wpE_ret ?_));cases h
 exact e_ret (ct:=0) (.tmp rfl (back_sc rfl) .nil) rfl
theorem s203 {x0 : List UInt8} {x1 : List UInt8} {r : Bool}  (h : uF203 x0 x1 = some r) : pc (L mx) 203 [.c (I (.str x0)),.c (I (.str x1))] true (P203 r):=by
 refine fn_pure (fn:=ir203) rfl (nlt rfl) fun lent hl=>?_;unfold uF203 at h;refine e_reg (k_mov rfl (k_nil (e_reg (k_mov rfl (k_lenS rfl (k_mov rfl (k_lenS rfl (k_bin rfl rfl rfl (k_mov rfl ?_)))))))));refine gL fun σ1 e2=>?_;have f3 : σ1 0 = V (.str x0):=(congrFun e2 0).trans rfl;have f4 : σ1 1 = V (.str x1):=(congrFun e2 1).trans rfl;have f5 : σ1 10 = V (.bool ((decide (((List.length x0 : Int)) ≥ ((List.length x1 : Int)))))):=(congrFun e2 10).trans rfl;obtain ⟨y9,e10,h⟩:=obind h;refine k_mid (fun σ' hp' _=>[] = hp' ∧ σ' 20 = V (.bool y9) ∧ Keep [] 11 20 σ1 σ') ?_ ?_
 ·rcases bt ((decide (((List.length x0 : Int)) ≥ ((List.length x1 : Int))))) with g6 | g6
  ·have h:=ctrue e10 g6
   refine k_yes (f5.trans (cgB g6)) (k_mov f3 (k_yes (f5.trans (cgB g6)) (k_mov f3 (k_yes (f5.trans (cgB g6)) (k_lenS rfl (k_yes (f5.trans (cgB g6)) (k_mov f4 (k_yes (f5.trans (cgB g6)) (k_lenS rfl ?_)))))))));refine k_yes (f5.trans (cgB g6)) (k_bin rfl rfl rfl (k_yes (f5.trans (cgB g6)) ?_));obtain ⟨y7,e8,h⟩:=obind h;refine k_slcT rfl (.some rfl) .none e8 (k_yes (f5.trans (cgB g6)) (k_mov f4 (k_yes (f5.trans (cgB g6)) (k_bin rfl rfl rfl (k_pickT (f5.trans (cgB g6)) rfl ?_)))));exact ⟨rfl,cgB (Option.some.inj h),(by repeat (first | exact (Keep.refl _ _ _ _) | refine Keep.upd ?_ rfl _))⟩
  ·have h:=cfalse e10 g6
   refine k_no (f5.trans (cgB g6)) rfl (k_no (f5.trans (cgB g6)) rfl (k_no (f5.trans (cgB g6)) rfl (k_no (f5.trans (cgB g6)) rfl (k_no (f5.trans (cgB g6)) rfl (k_no (f5.trans (cgB g6)) rfl (k_no (f5.trans (cgB g6)) rfl (k_no (f5.trans (cgB g6)) rfl (k_no (f5.trans (cgB g6)) rfl (k_pickF (f5.trans (cgB g6)) rfl ?_)))))))));exact ⟨rfl,cgB (Option.some.inj h),(by repeat (first | exact (Keep.refl _ _ _ _) | refine Keep.upd ?_ rfl _))⟩
 rintro σ11 _ _ ⟨rfl,f13,k12⟩;refine k_mov f13 (k_nil (wpE_ret ?_));cases h
 exact e_ret (ct:=0) (.tmp rfl (back_sc rfl) .nil) rfl
theorem s158 {x0 : List UInt8} {x1 : List UInt8} {r : Bool}  (h : uF158 x0 x1 = some r) : pc (L mx) 158 [.c (I (.str x0)),.c (I (.str x1))] true (P158 r):=by
 refine fn_pure (fn:=ir158) rfl (nlt rfl) fun lent hl=>?_;unfold uF158 at h;refine e_reg (k_mov rfl (k_nil (e_reg (k_mov rfl (k_mov rfl ?_)))));obtain ⟨y1,e2,h⟩:=obind h;refine k_call (.cons rfl rfl (.cons rfl rfl .nil)) (s203  e2) (.inl rfl) ?_;rintro _ rfl;refine k_mov rfl (k_nil (wpE_ret ?_));cases h
 exact e_ret (ct:=0) (.tmp rfl (back_sc rfl) .nil) rfl
theorem s119 {x0 : List UInt8} {r : Bool}  (h : uF119a x0 = some r) : pc (L mx) 119 [.c (I (.str x0))] true (P119 r):=by
 refine fn_pure (fn:=ir119) rfl (nlt rfl) fun lent hl=>?_;unfold uF119a at h;refine e_reg (k_mov rfl (k_nil (wpE_seq (e_reg (k_mov rfl ?_)))));obtain ⟨y1,e2,h⟩:=obind h;refine k_call (.cons rfl rfl .nil) (s154  e2) (.inl rfl) ?_;rintro _ rfl;refine k_not rfl (k_mov rfl (gL fun σ4 e5=>?_));have f6 : σ4 0 = V (.str x0):=(congrFun e5 0).trans rfl;have f7 : σ4 7 = V (.bool (!y1)):=(congrFun e5 7).trans rfl;obtain ⟨y12,e13,h⟩:=obind h;refine k_mid (fun σ' hp' _=>[] = hp' ∧ σ' 10 = V (.bool y12) ∧ Keep [] 8 10 σ4 σ') ?_ ?_
 ·rcases bt (!y1) with g8 | g8
  ·have h:=ctrue e13 g8
   refine k_no (f7.trans (cgB g8)) rfl (k_no (f7.trans (cgB g8)) rfl (k_pickT (f7.trans (cgB g8)) rfl ?_));exact ⟨rfl,cgB (Option.some.inj h),(by repeat (first | exact (Keep.refl _ _ _ _) | refine Keep.upd ?_ rfl _))⟩
  ·have h:=cfalse e13 g8
   refine k_yes (f7.trans (cgB g8)) (k_mov f6 (k_yes (f7.trans (cgB g8)) ?_));obtain ⟨y9,e10,h⟩:=obind h;refine k_call (.cons rfl rfl (.cons rfl rfl .nil)) (s38  e10) (.inl rfl) ?_;rintro _ rfl;refine k_pickF (f7.trans (cgB g8)) rfl ?_;exact ⟨rfl,cgB (Option.some.inj h),(by repeat (first | exact (Keep.refl _ _ _ _) | refine Keep.upd ?_ rfl _))⟩
 rintro σ14 _ _ ⟨rfl,f16,k15⟩;have f17:=(k15 0 rfl).trans f6;refine k_mov f16 (gL fun σ18 e19=>?_);have f20:=(congrFun e19 0).trans f17;have f21 : σ18 11 = V (.bool y12):=(congrFun e19 11).trans rfl;obtain ⟨y26,e27,h⟩:=obind h;refine k_mid (fun σ' hp' _=>[] = hp' ∧ σ' 14 = V (.bool y26) ∧ Keep [] 12 14 σ18 σ') ?_ ?_
 ·rcases bt y12 with g22 | g22
  ·have h:=ctrue e27 g22
   refine k_no (f21.trans (cgB g22)) rfl (k_no (f21.trans (cgB g22)) rfl (k_pickT (f21.trans (cgB g22)) rfl ?_));exact ⟨rfl,cgB (Option.some.inj h),(by repeat (first | exact (Keep.refl _ _ _ _) | refine Keep.upd ?_ rfl _))⟩
  ·have h:=cfalse e27 g22
   refine k_yes (f21.trans (cgB g22)) (k_mov f20 (k_yes (f21.trans (cgB g22)) ?_));obtain ⟨y23,e24,h⟩:=obind h;refine k_call (.cons rfl rfl (.cons rfl rfl .nil)) (s158  e24) (.inl rfl) ?_;rintro _ rfl;refine k_pickF (f21.trans (cgB g22)) rfl ?_;exact ⟨rfl,cgB (Option.some.inj h),(by repeat (first | exact (Keep.refl _ _ _ _) | refine Keep.upd ?_ rfl _))⟩
 rintro σ28 _ _ ⟨rfl,f30,k29⟩;have f31:=(k29 0 rfl).trans f20;refine k_mov f30 (gL fun σ32 e33=>?_);have f34:=(congrFun e33 0).trans f31;have f35 : σ32 15 = V (.bool y26):=(congrFun e33 15).trans rfl;obtain ⟨y40,e41,h⟩:=obind h;refine k_mid (fun σ' hp' _=>[] = hp' ∧ σ' 18 = V (.bool y40) ∧ Keep [] 16 18 σ32 σ') ?_ ?_
 ·rcases bt y26 with g36 | g36
  ·have h:=ctrue e41 g36
   refine k_no (f35.trans (cgB g36)) rfl (k_no (f35.trans (cgB g36)) rfl (k_pickT (f35.trans (cgB g36)) rfl ?_));exact ⟨rfl,cgB (Option.some.inj h),(by repeat (first | exact (Keep.refl _ _ _ _) | refine Keep.upd ?_ rfl _))⟩
  ·have h:=cfalse e41 g36
   refine k_yes (f35.trans (cgB g36)) (k_mov f34 (k_yes (f35.trans (cgB g36)) ?_));obtain ⟨y37,e38,h⟩:=obind h;refine k_call (.cons rfl rfl (.cons rfl rfl .nil)) (s157  e38) (.inl rfl) ?_;rintro _ rfl;refine k_pickF (f35.trans (cgB g36)) rfl ?_;exact ⟨rfl,cgB (Option.some.inj h),(by repeat (first | exact (Keep.refl _ _ _ _) | refine Keep.upd ?_ rfl _))⟩
 rintro σ42 _ _ ⟨rfl,f44,k43⟩;have f45:=(k43 0 rfl).trans f34;refine k_nil (wpE_cond (p:=y40) f44 (fun g46=>?_) (fun g46=>?_))
 ·have h:=ctrue h g46
  refine e_reg (k_mov rfl (k_nil (wpE_ret ?_)));cases h
  exact e_ret (ct:=0) (.tmp rfl (back_sc rfl) .nil) rfl
 ·have h:=cfalse h g46
  refine wpE_skip (wpE_seq (e_reg (k_mov f45 (k_lenS rfl (k_mov rfl (k_nil (wpE_block (gE fun σ47 e48=>?_))))))));have f49:=(congrFun e48 0).trans f45;have f50 : σ47 20 = V (.int .i64 ((List.length x0 : Int))):=(congrFun e48 20).trans rfl;have f51 : σ47 21 = V (.int .i64 ((0 : Int))):=(congrFun e48 21).trans rfl;obtain ⟨e52,h53,h⟩:=lret_e h;refine wpE_mono (e_loop h53 (I:=fun s σ' hp' _=>σ' 21 = V (.int .i64 s) ∧ Keep [2,3] 21 34 σ47 σ' ∧ [] = hp') (X:=fun e ex σ' hp' _=>match e with | .inl e=>ex = .exit 0 ∧ Keep [2,3] 21 34 σ47 σ' ∧ [] = hp' | .inr r=>ex = .ret ∧ ∀ ct,atEnd 35 [Res.tmp 2] (fin lent (P119 r)) .ret σ' hp' ct) ⟨f51,Keep.refl _ _ _ _,rfl⟩ ?_) ?_
  ·clear h
   rintro w54 o σ56 _ _ h ⟨f55,k58,rfl⟩;have h : uF119 x0 w54 = some o:=h; unfold uF119 at h;have f60:=(k58 0 rfl).trans f49;have f61:=(k58 20 rfl).trans f50;refine e_reg (k_bin f55 f61 rfl (k_nil (wpE_seq (wpE_cond (p:=(decide (w54 < ((List.length x0 : Int))))) rfl (fun g62=>?_) (fun g62=>?_)))))
   ·have h:=ctrue h g62
    refine wpE_skip (wpE_seq (wpE_block (e_reg (k_mov f55 (k_mov rfl (k_nil (e_reg (k_mov f60 (k_mov rfl ?_)))))))));obtain ⟨y63,e64,h⟩:=obind h;refine k_idxS rfl rfl e64 (k_bin rfl rfl rfl (k_mov rfl (gL fun σ65 e66=>?_)));have k67 : Keep [2,3] 21 34 σ47 σ65:=by rw [e66]; repeat (first | exact k58 | refine Keep.upd ?_ rfl _)
    have f68:=(congrFun e66 0).trans f60;have f70:=(congrFun e66 21).trans f55;have f71 : σ65 3 = V (.int .i64 w54):=(congrFun e66 3).trans rfl;have f72 : σ65 28 = V (.bool ((decide (((y63.toNat : Int)) < ((32 : Int)))))):=(congrFun e66 28).trans rfl;obtain ⟨y76,e77,h⟩:=obind h;refine k_mid (fun σ' hp' _=>[] = hp' ∧ σ' 33 = V (.bool y76) ∧ Keep [] 29 33 σ65 σ') ?_ ?_
    ·rcases bt ((decide (((y63.toNat : Int)) < ((32 : Int))))) with g73 | g73
     ·have h:=ctrue e77 g73
      refine k_no (f72.trans (cgB g73)) rfl (k_no (f72.trans (cgB g73)) rfl (k_no (f72.trans (cgB g73)) rfl (k_no (f72.trans (cgB g73)) rfl (k_pickT (f72.trans (cgB g73)) rfl ?_))));exact ⟨rfl,cgB (Option.some.inj h),(by repeat (first | exact (Keep.refl _ _ _ _) | refine Keep.upd ?_ rfl _))⟩
     ·have h:=cfalse e77 g73
      refine k_yes (f72.trans (cgB g73)) (k_mov f68 (k_yes (f72.trans (cgB g73)) (k_mov f71 (k_yes (f72.trans (cgB g73)) ?_))));obtain ⟨y74,e75,h⟩:=obind h;refine k_idxS rfl rfl e75 (k_yes (f72.trans (cgB g73)) (k_bin rfl rfl rfl (k_pickF (f72.trans (cgB g73)) rfl ?_)));exact ⟨rfl,cgB (Option.some.inj h),(by repeat (first | exact (Keep.refl _ _ _ _) | refine Keep.upd ?_ rfl _))⟩
    rintro σ78 _ _ ⟨rfl,f80,k79⟩;have f83:=(k79 21 rfl).trans f70;have k84 : Keep [2,3] 21 34 σ47 σ78:=Keep.trans k67 (Keep.sub k79 rfl);refine k_nil (wpE_cond (p:=y76) f80 (fun g85=>?_) (fun g85=>?_))
    ·have h:=ctrue h g85
     refine e_reg (k_mov rfl (k_nil (wpE_ret ?_)));cases h
     exact ⟨by decide,rfl,fun _=>e_ret (ct:=0) (.tmp rfl (back_sc rfl) .nil) rfl⟩
    ·have h:=cfalse h g85
     refine wpE_skip (e_last (k_bin f83 rfl rfl (k_mov rfl (k_nil ?_))));cases h
     exact ⟨rfl,rfl,(by repeat (first | exact k84 | refine Keep.upd ?_ rfl _)),rfl⟩
   ·have h:=cfalse h g62
    refine wpE_exit ?_;cases h
    exact ⟨by decide,rfl,(by repeat (first | exact k58 | refine Keep.upd ?_ rfl _)),rfl⟩
  rcases e52 with _ | r1;rotate_left
  ·rintro _ _ _ _ ⟨rfl,hX⟩
   cases h
   exact hX 0
  rintro _ σ86 _ _ ⟨rfl,k88,rfl⟩;refine e_reg (k_mov rfl (k_nil (wpE_ret ?_)));cases h
  exact e_ret (ct:=0) (.tmp rfl (back_sc rfl) .nil) rfl
theorem s53 {x0 : List Int} {vx0 : IV} {r : Int} (hx0 : sv (Rep.int .i64) false vx0 x0) (h : uF53a x0 = some r) : pc (L mx) 53 [.c (I vx0)] true (P53 r):=by
 refine fn_pure (fn:=ir53) rfl (nlt rfl) fun lent hl=>?_;unfold uF53a at h;refine e_reg (k_mov rfl (k_nil (e_reg (k_mov rfl (k_nil (wpE_seq (e_reg (k_mov rfl (k_len rfl (sv.any [] _ hx0) ?_)))))))));refine k_mov rfl (k_nil (wpE_block (gE fun σ1 e2=>?_)));have f3 : σ1 3 = V (.int .i64 ((0 : Int))):=(congrFun e2 3).trans rfl;have f4 : σ1 6 = .v (.c ((I vx0))):=(congrFun e2 6).trans rfl;have f5 : σ1 7 = V (.int .i64 ((List.length x0 : Int))):=(congrFun e2 7).trans rfl;have f6 : σ1 8 = V (.int .i64 ((0 : Int))):=(congrFun e2 8).trans rfl;obtain ⟨e7,h8,h⟩:=lret_e h;refine wpE_mono (e_loop h8 (I:=fun s σ' hp' _=>σ' 8 = V (.int .i64 s) ∧ Keep [2,5] 8 16 σ1 σ' ∧ [] = hp') (X:=fun e ex σ' hp' _=>match e with | .inl e=>ex = .exit 0 ∧ Keep [2,5] 8 16 σ1 σ' ∧ [] = hp' | .inr r=>ex = .ret ∧ ∀ ct,atEnd 18 [Res.tmp 2] (fin lent (P53 r)) .ret σ' hp' ct) ⟨f6,Keep.refl _ _ _ _,rfl⟩ ?_) ?_
 ·clear h
  rintro w9 o σ11 _ _ h ⟨f10,k13,rfl⟩;have h : uF53 x0 w9 = some o:=h; unfold uF53 at h;have f15:=(k13 3 rfl).trans f3;have f16:=(k13 6 rfl).trans f4;have f17:=(k13 7 rfl).trans f5;refine e_reg (k_bin f10 f17 rfl (k_nil (wpE_seq (wpE_cond (p:=(decide (w9 < ((List.length x0 : Int))))) rfl (fun g18=>?_) (fun g18=>?_)))))
  ·have h:=ctrue h g18
   refine wpE_skip (wpE_seq (wpE_block (e_reg ?_)));obtain ⟨y19,e20,h⟩:=obind h;refine k_iadrL f16 (sv.any [] _ hx0) f10 e20 rfl fun p21 c22 q23 h24=>?_;obtain rfl : c22 = [IV.int .i64 y19]:=h24;refine k_loadL rfl q23 rfl (k_mov rfl (k_nil (e_reg (k_mov rfl (k_mov f15 (k_bin rfl rfl rfl (k_nil (wpE_cond (p:=(y19 != ((0 : Int)))) rfl (fun g25=>?_) (fun g25=>?_)))))))))
   ·have h:=ctrue h g25
    refine e_reg (k_mov rfl (k_mov rfl (k_nil (wpE_ret ?_))));cases h
    exact ⟨by decide,rfl,fun _=>e_ret (ct:=0) (.tmp rfl (back_sc rfl) .nil) rfl⟩
   ·have h:=cfalse h g25
    refine wpE_skip (e_last (k_bin f10 rfl rfl (k_mov rfl (k_nil ?_))));cases h
    exact ⟨rfl,rfl,(by repeat (first | exact k13 | refine Keep.upd ?_ rfl _)),rfl⟩
  ·have h:=cfalse h g18
   refine wpE_exit ?_;cases h
   exact ⟨by decide,rfl,(by repeat (first | exact k13 | refine Keep.upd ?_ rfl _)),rfl⟩
 rcases e7 with _ | r1;rotate_left
 ·rintro _ _ _ _ ⟨rfl,hX⟩
  cases h
  exact hX 0
 rintro _ σ26 _ _ ⟨rfl,k28,rfl⟩;have f30:=(k28 3 rfl).trans f3;refine e_reg (k_mov f30 (k_mov rfl (k_nil (wpE_ret ?_))));cases h
 exact e_ret (ct:=0) (.tmp rfl (back_sc rfl) .nil) rfl
theorem s144 {x0 : List UInt8} {x1 : List UInt8} {r : Int} (h : uF144 x0 x1 = some r) : pc (L mx) 144 [.c (I (.str x0)),.c (I (.str x1))] true (P144 r):=by
 cases h
 intro lent _;refine ⟨[.c (I (.int .i64 _))],?_,rfl⟩;unfold pureCall;rw [show (L mx) 144 _ [] = some ([.c (I (.int .i64 (Lib.compareBytes x0 x1)))],[]) from lim_x rfl _ _ rfl];cases lent <;> rfl
theorem s100 {x0 : List UInt8} {x1 : List UInt8} {r : Int}  (h : uF100 x0 x1 = some r) : pc (L mx) 100 [.c (I (.str x0)),.c (I (.str x1))] true (P100 r):=by
 refine fn_pure (fn:=ir100) rfl (nlt rfl) fun lent hl=>?_;unfold uF100 at h;refine e_reg (k_mov rfl (k_nil (e_reg (k_mov rfl (k_mov rfl ?_)))));obtain ⟨y1,e2,h⟩:=obind h;refine k_call (.cons rfl rfl (.cons rfl rfl .nil)) (s144  e2) (.inl rfl) ?_;rintro _ rfl;refine k_mov rfl (k_nil (wpE_ret ?_));cases h
 exact e_ret (ct:=0) (.tmp rfl (back_sc rfl) .nil) rfl
theorem s54 {x0 : List UInt8} {x1 : List UInt8} {r : Int}  (h : uF54 x0 x1 = some r) : pc (L mx) 54 [.c (I (.str x0)),.c (I (.str x1))] true (P54 r):=by
 refine fn_pure (fn:=ir54) rfl (nlt rfl) fun lent hl=>?_;unfold uF54 at h;refine e_reg (k_mov rfl (k_nil (e_reg (k_mov rfl (k_mov rfl ?_)))));obtain ⟨y1,e2,h⟩:=obind h;refine k_call (.cons rfl rfl (.cons rfl rfl .nil)) (s100  e2) (.inl rfl) ?_;rintro _ rfl;refine k_mov rfl (k_nil (wpE_ret ?_));cases h
 exact e_ret (ct:=0) (.tmp rfl (back_sc rfl) .nil) rfl
theorem s101 {x0 : Int} {r : Bool}  (h : uF101 x0 = some r) : pc (L mx) 101 [.c (I (.int .i64 x0))] true (P101 r):=by
 refine fn_pure (fn:=ir101) rfl (nlt rfl) fun lent hl=>?_;unfold uF101 at h;refine e_reg (k_mov rfl (k_nil (e_reg (k_mov rfl (k_mov rfl (k_bin rfl rfl rfl (k_mov rfl ?_)))))));obtain ⟨u1,e2,h⟩:=bnd_e h;refine k_nil (wpE_ret ?_);cases h
 exact e_ret (ct:=0) (.tmp (cgB e2) (back_sc rfl) .nil) rfl
theorem s55 {x0 : Int} {x1 : Int} {r : Int}  (h : uF55 x0 x1 = some r) : pc (L mx) 55 [.c (I (.int .i64 x0)),.c (I (.int .i64 x1))] true (P55 r):=by
 refine fn_pure (fn:=ir55) rfl (nlt rfl) fun lent hl=>?_;unfold uF55 at h;refine e_reg (k_mov rfl (k_nil (e_reg (k_mov rfl ?_))));obtain ⟨y1,e2,h⟩:=obind h;refine k_call (.cons rfl rfl .nil) (s101  e2) (.inl rfl) ?_;rintro _ rfl;refine k_mov rfl (k_nil (e_reg (k_mov rfl ?_)));obtain ⟨y4,e5,h⟩:=obind h;refine k_call (.cons rfl rfl .nil) (s101  e5) (.inl rfl) ?_;rintro _ rfl;refine k_mov rfl (k_nil (wpE_seq (e_reg (k_mov rfl (k_nil (wpE_cond (p:=y1) rfl (fun g7=>?_) (fun g7=>?_)))))))
 ·have h:=ctrue h g7
  refine wpE_seq (e_reg (k_mov rfl (k_nil (wpE_cond (p:=y4) rfl (fun g8=>?_) (fun g8=>?_)))))
  ·have h:=ctrue h g8
   refine e_reg (k_mov rfl (k_nil (wpE_ret ?_)));cases h
   exact e_ret (ct:=0) (.tmp rfl (back_sc rfl) .nil) rfl
  ·have h:=cfalse h g8
   refine wpE_skip (e_reg (k_mov rfl (k_nil (wpE_ret ?_))));cases h
   exact e_ret (ct:=0) (.tmp rfl (back_sc rfl) .nil) rfl
 ·have h:=cfalse h g7
  refine wpE_skip (wpE_seq (e_reg (k_mov rfl (k_nil (wpE_cond (p:=y4) rfl (fun g9=>?_) (fun g9=>?_))))))
  ·have h:=ctrue h g9
   refine e_reg (k_mov rfl (k_nil (wpE_ret ?_)));cases h
   exact e_ret (ct:=0) (.tmp rfl (back_sc rfl) .nil) rfl
  ·have h:=cfalse h g9
   refine wpE_skip (wpE_seq (e_reg (k_mov rfl (k_mov rfl (k_bin rfl rfl rfl (k_nil (wpE_cond (p:=(decide (x0 < x1))) rfl (fun g10=>?_) (fun g10=>?_))))))))
   ·have h:=ctrue h g10
    refine e_reg (k_mov rfl (k_nil (wpE_ret ?_)));cases h
    exact e_ret (ct:=0) (.tmp rfl (back_sc rfl) .nil) rfl
   ·have h:=cfalse h g10
    refine wpE_skip (wpE_seq (e_reg (k_mov rfl (k_mov rfl (k_bin rfl rfl rfl (k_nil (wpE_cond (p:=(decide (x0 > x1))) rfl (fun g11=>?_) (fun g11=>?_))))))))
    ·have h:=ctrue h g11
     refine e_reg (k_mov rfl (k_nil (wpE_ret ?_)));cases h
     exact e_ret (ct:=0) (.tmp rfl (back_sc rfl) .nil) rfl
    ·have h:=cfalse h g11
     refine wpE_skip (e_reg (k_mov rfl (k_nil (wpE_ret ?_))));cases h
     exact e_ret (ct:=0) (.tmp rfl (back_sc rfl) .nil) rfl
theorem s120 {x0 : uT0} {cx0 : List IV} {x1 : uT0} {cx1 : List IV} {r : Int} (hx0 : uR0.rp false cx0 x0) (hx1 : uR0.rp false cx1 x1) (h : uF120 x0 x1 = some r) : pc (L mx) 120 [.agg (cx0.map I),.agg (cx1.map I)] true (P120 r):=by
 refine fn_pure (fn:=ir120) rfl (nlt rfl) fun lent hl=>?_;unfold uF120 at h;obtain ⟨_,rfl⟩:=uR0.inv hx0;obtain ⟨_,rfl⟩:=uR0.inv hx1;refine e_reg (k_box rfl rfl fun g1 hp2 k3 r4=>?_);refine k_box rfl rfl fun g5 hp6 k7 r8=>?_;have k9:=(r8 2 (by decide)).trans k3;refine k_mov rfl (k_nil (e_regD (by kernel_rfl) (by kernel_rfl) (k_fadrB (o:=0) rfl k9 (k_loadB rfl k9 rfl (k_fadrB (o:=0) rfl k7 (k_loadB rfl k7 rfl ?_))))));obtain ⟨y10,e11,h⟩:=obind h;refine k_call (.cons rfl rfl (.cons rfl rfl .nil)) (s54  e11) (.inl rfl) ?_;rintro _ rfl;refine k_fadrB (o:=1) rfl k9 (k_loadB rfl k9 rfl (k_fadrB (o:=1) rfl k7 (k_loadB rfl k7 rfl ?_)));obtain ⟨y13,e14,h⟩:=obind h;refine k_call (.cons rfl rfl (.cons rfl rfl .nil)) (s54  e14) (.inl rfl) ?_;rintro _ rfl;refine k_fadrB (o:=3) rfl k9 (k_loadB rfl k9 rfl (k_fadrB (o:=3) rfl k7 (k_loadB rfl k7 rfl ?_)));obtain ⟨y16,e17,h⟩:=obind h;refine k_call (.cons rfl rfl (.cons rfl rfl .nil)) (s55  e17) (.inl rfl) ?_;rintro _ rfl;refine k_bslI (len:=3) (z:=IV.int .i64 ((0 : Int))) (vs:=[IV.int .i64 y10,IV.int .i64 y13,IV.int .i64 y16]) (.cons rfl (.cons rfl (.cons rfl .nil))) (by decide) rfl ?_;have o19 : sv (Rep.int .i64) true (.lit 0 [IV.int .i64 y10,IV.int .i64 y13,IV.int .i64 y16] 3) ([y10,y13,y16] : List Int):=sv_lit true (⟨[IV.int .i64 y10],_,rfl,rfl,⟨[IV.int .i64 y13],_,rfl,rfl,⟨[IV.int .i64 y16],_,rfl,rfl,rfl⟩⟩⟩) rfl
 obtain ⟨y20,e21,h⟩:=obind h;refine k_call (.cons rfl rfl .nil) (s53 (sv_retag o19) e21) (.inl rfl) ?_;rintro _ rfl;refine k_mov rfl (k_nil (wpE_ret ?_));cases h
 exact e_ret (ct:=0) (.tmp rfl (back_sc rfl) .nil) rfl
end Go.Proofs.YtnpbglnfnhejiaaGreatDoor

/-
 The small code of functions comes to the Lean functions. Printed by a program of mine.
-/
namespace Go.Proofs.YtnpbglnfnhejiaaGreatDoor
open Go Go.Abs
set_option maxRecDepth 100000
set_option maxHeartbeats 8000000
variable {mx : Int}
theorem s67 {x0 : List uT0} {vx0 : IV} {r : Int} (hx0 : sv uR0 false vx0 x0) (h : uF67 x0 = some r) : pc (L mx) 67 [.c (I vx0)] true (P67 r):=by
 refine fn_pure (fn:=ir67) rfl (nlt rfl) fun lent hl=>?_;unfold uF67 at h;refine e_reg (k_mov rfl (k_nil (wpE_seq (e_reg (k_mov rfl (k_len rfl (sv.any [] _ hx0) (k_bin rfl rfl rfl (k_nil (wpE_cond (p:=(decide (((List.length x0 : Int)) > ((1000 : Int))))) rfl (fun g1=>?_) (fun g1=>?_))))))))))
 ·have h:=ctrue h g1
  refine e_reg (k_mov rfl (k_nil (wpE_ret ?_)));cases h
  exact e_ret (ct:=0) (.tmp rfl (back_sc rfl) .nil) rfl
 ·have h:=cfalse h g1
  refine wpE_skip (wpE_seq (e_reg (k_mov rfl (k_len rfl (sv.any [] _ hx0) (k_mov rfl (k_nil (wpE_block (gE fun σ2 e3=>?_))))))));have f4 : σ2 0 = .v (.c ((I vx0))):=(congrFun e3 0).trans rfl;have f5 : σ2 8 = .v (.c ((I vx0))):=(congrFun e3 8).trans rfl;have f6 : σ2 9 = V (.int .i64 ((List.length x0 : Int))):=(congrFun e3 9).trans rfl;have f7 : σ2 10 = V (.int .i64 ((0 : Int))):=(congrFun e3 10).trans rfl;obtain ⟨e8,h9,h⟩:=lret_e h;refine wpE_mono (e_loop h9 (I:=fun s σ' hp' _=>σ' 10 = V (.int .i64 s) ∧ Keep [2,3,4] 10 68 σ2 σ' ∧ Fr [4] [] hp') (X:=fun e ex σ' hp' _=>match e with | .inl e=>ex = .exit 0 ∧ Keep [2,3,4] 10 68 σ2 σ' ∧ Fr [4] [] hp' | .inr r=>ex = .ret ∧ ∀ ct,atEnd 69 [Res.tmp 2] (fin lent (P67 r)) .ret σ' hp' ct) ⟨f7,Keep.refl _ _ _ _,Fr.refl _ _⟩ ?_) ?_
  ·clear h
   rintro w10 o σ12 hp13 _ h ⟨f11,k14,r15⟩;have h : uF67a x0 w10 = some o:=h; unfold uF67a at h;have f16:=(k14 0 rfl).trans f4;have f17:=(k14 8 rfl).trans f5;have f18:=(k14 9 rfl).trans f6;refine e_reg (k_bin f11 f18 rfl (k_nil (wpE_seq (wpE_cond (p:=(decide (w10 < ((List.length x0 : Int))))) rfl (fun g19=>?_) (fun g19=>?_)))))
   ·have h:=ctrue h g19
    refine wpE_skip (wpE_seq (wpE_block (e_reg (k_mov f11 ?_))));obtain ⟨y20,e21,h⟩:=obind h;refine k_iadrL f17 (sv.any [] _ hx0) f11 e21 rfl fun p22 c23 q24 h25=>?_;obtain ⟨_,rfl⟩:=uR0.inv h25;refine k_loadL rfl q24 rfl (k_alloc fun g26 hp27 k28 r29=>?_);have r30 : Fr [4] [] hp27:=Fr.ext r15 r29 rfl;refine k_mov rfl (k_storeB rfl rfl k28 rfl fun hp31 k32 r33=>?_);have r34 : Fr [4] [] hp31:=Fr.ext r30 r33 rfl;refine k_nil (wpE_block (e_reg (k_fadrB (o:=0) rfl k32 (k_loadB rfl k32 rfl ?_))));obtain ⟨y35,e36,h⟩:=obind h;refine k_call (.cons rfl rfl .nil) (s57  e36) (.inl rfl) ?_;rintro _ rfl;refine k_not rfl (k_mov rfl (gL fun σ38 e39=>?_));have k40 : Keep [2,3,4] 10 68 σ2 σ38:=by rw [e39]; repeat (first | exact k14 | refine Keep.upd ?_ rfl _)
    have f41:=(congrFun e39 0).trans f16;have f44:=(congrFun e39 10).trans f11;have f45 : σ38 4 = .v (.c (.r (.ptr 4 g26 0))):=(congrFun e39 4).trans rfl;have f46 : σ38 3 = V (.int .i64 w10):=(congrFun e39 3).trans rfl;have f47 : σ38 20 = V (.bool (!y35)):=(congrFun e39 20).trans rfl;obtain ⟨y52,e53,h⟩:=obind h;refine k_mid (fun σ' hp' _=>hp31 = hp' ∧ σ' 25 = V (.bool y52) ∧ Keep [] 21 25 σ38 σ') ?_ ?_
    ·rcases bt (!y35) with g48 | g48
     ·have h:=ctrue e53 g48
      refine k_no (f47.trans (cgB g48)) rfl (k_no (f47.trans (cgB g48)) rfl (k_no (f47.trans (cgB g48)) rfl (k_no (f47.trans (cgB g48)) rfl (k_pickT (f47.trans (cgB g48)) rfl ?_))));exact ⟨rfl,cgB (Option.some.inj h),(by repeat (first | exact (Keep.refl _ _ _ _) | refine Keep.upd ?_ rfl _))⟩
     ·have h:=cfalse e53 g48
      refine k_yes (f47.trans (cgB g48)) (k_fadrB (o:=1) f45 k32 (k_yes (f47.trans (cgB g48)) (k_loadB rfl k32 rfl (k_yes (f47.trans (cgB g48)) ?_))));obtain ⟨y49,e50,h⟩:=obind h;refine k_call (.cons rfl rfl .nil) (s57  e50) (.inl rfl) ?_;rintro _ rfl;refine k_yes (f47.trans (cgB g48)) (k_not rfl (k_pickF (f47.trans (cgB g48)) rfl ?_));exact ⟨rfl,cgB (Option.some.inj h),(by repeat (first | exact (Keep.refl _ _ _ _) | refine Keep.upd ?_ rfl _))⟩
    rintro σ54 _ _ ⟨rfl,f56,k55⟩;have f57:=(k55 0 rfl).trans f41;have f60:=(k55 10 rfl).trans f44;have f61:=(k55 4 rfl).trans f45;have f62:=(k55 3 rfl).trans f46;have k63 : Keep [2,3,4] 10 68 σ2 σ54:=Keep.trans k40 (Keep.sub k55 rfl);refine k_mov f56 (k_nil (wpE_cond (p:=y52) rfl (fun g64=>?_) (fun g64=>?_)))
    ·have h:=ctrue h g64
     refine e_reg (k_mov rfl (k_nil (wpE_ret ?_)));cases h
     exact ⟨by decide,rfl,fun _=>e_ret (ct:=0) (.tmp rfl (back_sc rfl) .nil) rfl⟩
    ·have h:=cfalse h g64
     refine e_reg (k_fadrB (o:=2) f61 k32 (k_loadB rfl k32 rfl ?_));obtain ⟨y65,e66,h⟩:=obind h;refine k_call (.cons rfl rfl (.cons rfl rfl (.cons rfl rfl .nil))) (s118  e66) (.inl rfl) ?_;rintro _ rfl;refine k_not rfl (k_mov rfl (k_nil (wpE_cond (p:=(!y65)) rfl (fun g68=>?_) (fun g68=>?_))))
     ·have h:=ctrue h g68
      refine e_reg (k_mov rfl (k_nil (wpE_ret ?_)));cases h
      exact ⟨by decide,rfl,fun _=>e_ret (ct:=0) (.tmp rfl (back_sc rfl) .nil) rfl⟩
     ·have h:=cfalse h g68
      refine e_reg (k_fadrB (o:=3) f61 k32 (k_loadB rfl k32 rfl ?_));obtain ⟨y69,e70,h⟩:=obind h;refine k_call (.cons rfl rfl .nil) (s59  e70) (.inl rfl) ?_;rintro _ rfl;refine k_not rfl (k_mov rfl (gL fun σ72 e73=>?_));have k74 : Keep [2,3,4] 10 68 σ2 σ72:=by rw [e73]; repeat (first | exact k63 | refine Keep.upd ?_ rfl _)
      have f75:=(congrFun e73 0).trans f57;have f78:=(congrFun e73 10).trans f60;have f79:=(congrFun e73 4).trans f61;have f80:=(congrFun e73 3).trans f62;have f81 : σ72 36 = V (.bool (!y69)):=(congrFun e73 36).trans rfl;obtain ⟨y86,e87,h⟩:=obind h;refine k_mid (fun σ' hp' _=>hp31 = hp' ∧ σ' 43 = V (.bool y86) ∧ Keep [] 37 43 σ72 σ') ?_ ?_
      ·rcases bt (!y69) with g82 | g82
       ·have h:=ctrue e87 g82
        refine k_no (f81.trans (cgB g82)) rfl (k_no (f81.trans (cgB g82)) rfl (k_no (f81.trans (cgB g82)) rfl (k_no (f81.trans (cgB g82)) rfl (k_no (f81.trans (cgB g82)) rfl (k_no (f81.trans (cgB g82)) rfl (k_pickT (f81.trans (cgB g82)) rfl ?_))))));exact ⟨rfl,cgB (Option.some.inj h),(by repeat (first | exact (Keep.refl _ _ _ _) | refine Keep.upd ?_ rfl _))⟩
       ·have h:=cfalse e87 g82
        refine k_yes (f81.trans (cgB g82)) (k_fadrB (o:=4) f79 k32 (k_yes (f81.trans (cgB g82)) (k_loadB rfl k32 rfl (k_yes (f81.trans (cgB g82)) (k_fadrB (o:=3) f79 k32 (k_yes (f81.trans (cgB g82)) (k_loadB rfl k32 rfl (k_yes (f81.trans (cgB g82)) ?_))))))));obtain ⟨y83,e84,h⟩:=obind h;refine k_call (.cons rfl rfl (.cons rfl rfl (.cons rfl rfl .nil))) (s118  e84) (.inl rfl) ?_;rintro _ rfl;refine k_yes (f81.trans (cgB g82)) (k_not rfl (k_pickF (f81.trans (cgB g82)) rfl ?_));exact ⟨rfl,cgB (Option.some.inj h),(by repeat (first | exact (Keep.refl _ _ _ _) | refine Keep.upd ?_ rfl _))⟩
      rintro σ88 _ _ ⟨rfl,f90,k89⟩;have f91:=(k89 0 rfl).trans f75;have f94:=(k89 10 rfl).trans f78;have f95:=(k89 4 rfl).trans f79;have f96:=(k89 3 rfl).trans f80;have k97 : Keep [2,3,4] 10 68 σ2 σ88:=Keep.trans k74 (Keep.sub k89 rfl);refine k_mov f90 (k_nil (wpE_cond (p:=y86) rfl (fun g98=>?_) (fun g98=>?_)))
      ·have h:=ctrue h g98
       refine e_reg (k_mov rfl (k_nil (wpE_ret ?_)));cases h
       exact ⟨by decide,rfl,fun _=>e_ret (ct:=0) (.tmp rfl (back_sc rfl) .nil) rfl⟩
      ·have h:=cfalse h g98
       refine e_reg (k_fadrB (o:=5) f95 k32 (k_loadB rfl k32 rfl ?_));obtain ⟨y99,e100,h⟩:=obind h;refine k_call (.cons rfl rfl .nil) (s119  e100) (.inl rfl) ?_;rintro _ rfl;refine k_not rfl (k_mov rfl (gL fun σ102 e103=>?_));have k104 : Keep [2,3,4] 10 68 σ2 σ102:=by rw [e103]; repeat (first | exact k97 | refine Keep.upd ?_ rfl _)
       have f105:=(congrFun e103 0).trans f91;have f108:=(congrFun e103 10).trans f94;have f109:=(congrFun e103 4).trans f95;have f110:=(congrFun e103 3).trans f96;have f111 : σ102 49 = V (.bool (!y99)):=(congrFun e103 49).trans rfl;refine k_mid (fun σ' hp' _=>hp31 = hp' ∧ σ' 54 = V (.bool (((!y99) || (decide (((List.length y20.Note : Int)) > ((100 : Int))))))) ∧ Keep [] 50 54 σ102 σ') ?_ ?_
       ·rcases bt (!y99) with g112 | g112
        ·refine k_no (f111.trans (cgB g112)) rfl ?_
         refine k_no (f111.trans (cgB g112)) rfl (k_no (f111.trans (cgB g112)) rfl (k_no (f111.trans (cgB g112)) rfl (k_pickT (f111.trans (cgB g112)) rfl ?_)));exact ⟨rfl,cgB (by rw [g112]; rfl),(by repeat (first | exact (Keep.refl _ _ _ _) | refine Keep.upd ?_ rfl _))⟩
        ·refine k_yes (f111.trans (cgB g112)) ?_
         refine k_fadrB (o:=5) f109 k32 (k_yes (f111.trans (cgB g112)) (k_loadB rfl k32 rfl (k_yes (f111.trans (cgB g112)) (k_lenS rfl (k_yes (f111.trans (cgB g112)) (k_bin rfl rfl rfl (k_pickF (f111.trans (cgB g112)) rfl ?_)))))));exact ⟨rfl,cgB (by rw [g112]; rfl),(by repeat (first | exact (Keep.refl _ _ _ _) | refine Keep.upd ?_ rfl _))⟩
       rintro σ113 _ _ ⟨rfl,f115,k114⟩;have f116:=(k114 0 rfl).trans f105;have f119:=(k114 10 rfl).trans f108;have f120:=(k114 4 rfl).trans f109;have f121:=(k114 3 rfl).trans f110;have k122 : Keep [2,3,4] 10 68 σ2 σ113:=Keep.trans k104 (Keep.sub k114 rfl);refine k_mov f115 ?_;obtain ⟨u123,e124,h⟩:=bnd_e h;refine k_nil (wpE_cond (p:=u123) (cgB e124) (fun g125=>?_) (fun g125=>?_))
       ·have h:=ctrue h g125
        refine e_reg (k_mov rfl (k_nil (wpE_ret ?_)));cases h
        exact ⟨by decide,rfl,fun _=>e_ret (ct:=0) (.tmp rfl (back_sc rfl) .nil) rfl⟩
       ·have h:=cfalse h g125
        refine e_regD (by kernel_rfl) (by kernel_rfl) (k_mov f121 (k_bin rfl rfl rfl (k_mov rfl (gL fun σ126 e127=>?_))));have k128 : Keep [2,3,4] 10 68 σ2 σ126:=by rw [e127]; repeat (first | exact k122 | refine Keep.upd ?_ rfl _)
        have f129:=(congrFun e127 0).trans f116;have f132:=(congrFun e127 10).trans f119;have f133:=(congrFun e127 4).trans f120;have f134:=(congrFun e127 3).trans f121;have f135 : σ126 58 = V (.bool ((decide (w10 > ((0 : Int)))))):=(congrFun e127 58).trans rfl;obtain ⟨y146,e147,h⟩:=obind h;refine k_mid (fun σ' hp' _=>hp31 = hp' ∧ σ' 67 = V (.bool y146) ∧ Keep [] 59 67 σ126 σ') ?_ ?_
        ·rcases bt ((decide (w10 > ((0 : Int))))) with g136 | g136
         ·have h:=ctrue e147 g136
          refine k_yes (f135.trans (cgB g136)) (k_mov f129 (k_yes (f135.trans (cgB g136)) (k_mov f134 (k_yes (f135.trans (cgB g136)) (k_bin rfl rfl rfl (k_yes (f135.trans (cgB g136)) ?_))))));obtain ⟨y137,e138,h⟩:=obind h;refine k_iadrL rfl (sv.any [] _ hx0) rfl e138 rfl fun p139 c140 q141 h142=>?_;obtain ⟨_,rfl⟩:=uR0.inv h142;refine k_yes (f135.trans (cgB g136)) (k_loadL rfl q141 rfl (k_yes (f135.trans (cgB g136)) (k_loadB f133 k32 rfl (k_yes (f135.trans (cgB g136)) ?_))));obtain ⟨y143,e144,h⟩:=obind h;refine k_call (.cons rfl rfl (.cons rfl rfl .nil)) (s120 (cx0:=[IV.str y137.Person,IV.str y137.Device,IV.int .i64 y137.State,IV.int .i64 y137.At,IV.int .i64 y137.Until,IV.str y137.Note]) (uR0.mk) (cx1:=[IV.str y20.Person,IV.str y20.Device,IV.int .i64 y20.State,IV.int .i64 y20.At,IV.int .i64 y20.Until,IV.str y20.Note]) (uR0.mk) e144) (.inl rfl) ?_;rintro _ rfl;refine k_yes (f135.trans (cgB g136)) (k_bin rfl rfl rfl (k_pickT (f135.trans (cgB g136)) rfl ?_));exact ⟨rfl,cgB (Option.some.inj h),(by repeat (first | exact (Keep.refl _ _ _ _) | refine Keep.upd ?_ rfl _))⟩
         ·have h:=cfalse e147 g136
          refine k_no (f135.trans (cgB g136)) rfl (k_no (f135.trans (cgB g136)) rfl (k_no (f135.trans (cgB g136)) rfl (k_no (f135.trans (cgB g136)) rfl (k_no (f135.trans (cgB g136)) rfl (k_no (f135.trans (cgB g136)) rfl (k_no (f135.trans (cgB g136)) rfl (k_no (f135.trans (cgB g136)) rfl (k_pickF (f135.trans (cgB g136)) rfl ?_))))))));exact ⟨rfl,cgB (Option.some.inj h),(by repeat (first | exact (Keep.refl _ _ _ _) | refine Keep.upd ?_ rfl _))⟩
        rintro σ148 _ _ ⟨rfl,f150,k149⟩;have f154:=(k149 10 rfl).trans f132;have k155 : Keep [2,3,4] 10 68 σ2 σ148:=Keep.trans k128 (Keep.sub k149 rfl);refine k_mov f150 (k_nil (wpE_cond (p:=y146) rfl (fun g156=>?_) (fun g156=>?_)))
        ·have h:=ctrue h g156
         refine e_reg (k_mov rfl (k_nil (wpE_ret ?_)));cases h
         exact ⟨by decide,rfl,fun _=>e_ret (ct:=0) (.tmp rfl (back_sc rfl) .nil) rfl⟩
        ·have h:=cfalse h g156
         refine wpE_skip (e_last (k_bin f154 rfl rfl (k_mov rfl (k_nil ?_))));cases h
         exact ⟨rfl,rfl,(by repeat (first | exact k155 | refine Keep.upd ?_ rfl _)),r34⟩
   ·have h:=cfalse h g19
    refine wpE_exit ?_;cases h
    exact ⟨by decide,rfl,(by repeat (first | exact k14 | refine Keep.upd ?_ rfl _)),r15⟩
  rcases e8 with _ | r1;rotate_left
  ·rintro _ _ _ _ ⟨rfl,hX⟩
   cases h
   exact hX 0
  rintro _ σ157 hp158 _ ⟨rfl,k159,r160⟩;refine e_reg (k_mov rfl (k_nil (wpE_ret ?_)));cases h
  exact e_ret (ct:=0) (.tmp rfl (back_sc rfl) .nil) rfl
theorem g68 {x0 : List Int} {a0 : AC} {bs : List Blk} {r : List Int} (h0 : so [PB] (Rep.int .i64) true (heap0 bs) a0 x0) (h : uF68 x0 = some r) : ownC (L mx) 68 [.c a0] bs (O68 a0 r):=by
 unfold uF68 at h;split at h
 ·rename_i hk
  cases h
  obtain ⟨hp2,e1,e2⟩:=(row_own r1_i64 (new:=srtI) (len:=fun _=>none) (fun xs=>by simp [srtI]) (fun _ _ e=>by cases e) h0 hk).1 rfl rfl;exact ⟨[],hp2,lim_x rfl _ _ e1,rfl,e2⟩
 ·cases h
theorem g69 {x0 : List Int} {a0 : AC} {bs : List Blk} {r : List Int} (h0 : so [PB] (Rep.int .i64) true (heap0 bs) a0 x0) (h : uF69 x0 = some r) : ownC (L mx) 69 [.c a0] bs (O69 a0 r):=by
 unfold uF69 at h;split at h
 ·rename_i hk
  cases h
  obtain ⟨a,hp2,e1,e2,e3,e4⟩:=(row_own r1_i64 (new:=cpR 0) (len:=fun l=>some (Lib.compact l).length) (fun xs=>cpR_len _ xs) (fun xs m e=>by cases e; exact Abs.Lib.compact_le xs) h0 hk).2 _ rfl;rw [cpR_take] at e2;exact ⟨[.c a],hp2,lim_x rfl _ _ e1,a,rfl,e2,e3,e4⟩
 ·cases h
end Go.Proofs.YtnpbglnfnhejiaaGreatDoor

/-
 The small code of functions comes to the Lean functions. Printed by a program of mine.
-/
namespace Go.Proofs.YtnpbglnfnhejiaaGreatDoor
open Go Go.Abs
set_option maxRecDepth 100000
set_option maxHeartbeats 8000000
variable {mx : Int}
theorem s70 {x0 : List uT0} {vx0 : IV} {x1 : List UInt8} {x2 : Int} {r : uT0 × Bool} (hx0 : sv uR0 false vx0 x0) (h : uF70 x0 x1 x2 = some r) : pc (L mx) 70 [.c (I vx0),.c (I (.str x1)),.c (I (.int .i64 x2))] true (P70 r):=by
 refine fn_pure (fn:=ir70) rfl (nlt rfl) fun lent hl=>?_;unfold uF70 at h;refine e_reg (k_alloc fun g1 hp2 k3 r4=>?_);refine k_mov rfl (k_nil (e_reg (k_alloc fun g5 hp6 k7 r8=>?_)));have k9:=(r8 6 (by decide)).trans k3;refine k_nil (e_reg (k_mov rfl (k_nil (wpE_seq (e_reg (k_mov rfl (k_len rfl (sv.any [] _ hx0) (k_mov rfl (k_nil ?_)))))))));refine wpE_block (gE fun σ10 e11=>?_);have f12 : σ10 0 = .v (.c ((I vx0))):=(congrFun e11 0).trans rfl;have f13 : σ10 1 = V (.str x1):=(congrFun e11 1).trans rfl;have f14 : σ10 2 = V (.int .i64 x2):=(congrFun e11 2).trans rfl;have f15 : σ10 6 = .v (.c (.r (.ptr 6 g1 0))):=(congrFun e11 6).trans rfl;have f16 : σ10 8 = .v (.c (.r (.ptr 8 g5 0))):=(congrFun e11 8).trans rfl;have f17 : σ10 9 = V (.bool false):=(congrFun e11 9).trans rfl;have f18 : σ10 12 = .v (.c ((I vx0))):=(congrFun e11 12).trans rfl;have f19 : σ10 13 = V (.int .i64 ((List.length x0 : Int))):=(congrFun e11 13).trans rfl;have f20 : σ10 14 = V (.int .i64 ((0 : Int))):=(congrFun e11 14).trans rfl;obtain ⟨e21,h22,h⟩:=obind h
 refine wpE_mono (e_loop h22 (I:=fun s σ' hp' _=>σ' 9 = V (.bool s.1) ∧ σ' 14 = V (.int .i64 s.2.1) ∧ (∃ c,hp'.get 8 = some (.cells g5 (c.map I)) ∧ uR0.rp true c s.2.2) ∧ Keep [9,10,11] 14 89 σ10 σ' ∧ Fr [8,11] hp6 hp') (X:=fun e ex σ' hp' _=>ex = .exit 0 ∧ σ' 9 = V (.bool e.1) ∧ (∃ c,hp'.get 8 = some (.cells g5 (c.map I)) ∧ uR0.rp true c e.2) ∧ Keep [9,10,11] 14 89 σ10 σ' ∧ Fr [8,11] hp6 hp') ⟨f17,f20,⟨[IV.str [],IV.str [],IV.int .i64 ((0 : Int)),IV.int .i64 ((0 : Int)),IV.int .i64 ((0 : Int)),IV.str []],k7,(uR0.mk)⟩,Keep.refl _ _ _ _,Fr.refl _ _⟩ ?_) ?_
 ·clear h
  rintro ⟨w23,w24,w25⟩ o σ31 hp32 _ h ⟨f26,f27,⟨c28,k29,h30⟩,k33,r34⟩;have h : uF70a x0 x1 x2 w23 w24 w25 = some o:=h; unfold uF70a at h;have f35:=(k33 0 rfl).trans f12;have f36:=(k33 1 rfl).trans f13;have f37:=(k33 2 rfl).trans f14;have f39:=(k33 8 rfl).trans f16;have f40:=(k33 12 rfl).trans f18;have f41:=(k33 13 rfl).trans f19;obtain ⟨_,rfl⟩:=uR0.inv h30;refine e_reg (k_bin f27 f41 rfl (k_nil (wpE_seq (wpE_cond (p:=(decide (w24 < ((List.length x0 : Int))))) rfl (fun g43=>?_) (fun g43=>?_)))))
  ·have h:=ctrue h g43
   refine wpE_skip (wpE_seq (wpE_block (e_reg (k_mov f27 ?_))));obtain ⟨y44,e45,h⟩:=obind h;refine k_iadrL f40 (sv.any [] _ hx0) f27 e45 rfl fun p46 c47 q48 h49=>?_;obtain ⟨_,rfl⟩:=uR0.inv h49;refine k_loadL rfl q48 rfl (k_alloc fun g50 hp51 k52 r53=>?_);have r54 : Fr [8,11] hp6 hp51:=Fr.ext r34 r53 rfl;have k56:=(r53 8 (by decide)).trans k29;refine k_mov rfl (k_storeB rfl rfl k52 rfl fun hp57 k58 r59=>?_);have r60 : Fr [8,11] hp6 hp57:=Fr.ext r54 r59 rfl;have k62:=(r59 8 (by decide)).trans k56;refine k_nil (wpE_seq (e_reg (k_fadrB (o:=0) rfl k58 (k_loadB rfl k58 rfl (k_mov f36 (k_bin rfl rfl rfl (k_mov rfl (gL fun σ63 e64=>?_))))))));have k65 : Keep [9,10,11] 14 89 σ10 σ63:=by rw [e64]; repeat (first | exact k33 | refine Keep.upd ?_ rfl _)
   have f66:=(congrFun e64 0).trans f35;have f67:=(congrFun e64 1).trans f36;have f68:=(congrFun e64 2).trans f37;have f70:=(congrFun e64 8).trans f39;have f71:=(congrFun e64 9).trans f26;have f74:=(congrFun e64 14).trans f27;have f75 : σ63 11 = .v (.c (.r (.ptr 11 g50 0))):=(congrFun e64 11).trans rfl;have f76 : σ63 10 = V (.int .i64 w24):=(congrFun e64 10).trans rfl;have f77 : σ63 23 = V (.bool ((!(y44.Person == x1)))):=(congrFun e64 23).trans rfl;refine k_mid (fun σ' hp' _=>hp57 = hp' ∧ σ' 28 = V (.bool (((!(y44.Person == x1)) || (decide (y44.At > x2))))) ∧ Keep [] 24 28 σ63 σ') ?_ ?_
   ·rcases bt ((!(y44.Person == x1))) with g78 | g78
    ·refine k_no (f77.trans (cgB g78)) rfl ?_
     refine k_no (f77.trans (cgB g78)) rfl (k_no (f77.trans (cgB g78)) rfl (k_no (f77.trans (cgB g78)) rfl (k_pickT (f77.trans (cgB g78)) rfl ?_)));exact ⟨rfl,cgB (by rw [g78]; rfl),(by repeat (first | exact (Keep.refl _ _ _ _) | refine Keep.upd ?_ rfl _))⟩
    ·refine k_yes (f77.trans (cgB g78)) ?_
     refine k_fadrB (o:=3) f75 k58 (k_yes (f77.trans (cgB g78)) (k_loadB rfl k58 rfl (k_yes (f77.trans (cgB g78)) (k_mov f68 (k_yes (f77.trans (cgB g78)) (k_bin rfl rfl rfl (k_pickF (f77.trans (cgB g78)) rfl ?_)))))));exact ⟨rfl,cgB (by rw [g78]; rfl),(by repeat (first | exact (Keep.refl _ _ _ _) | refine Keep.upd ?_ rfl _))⟩
   rintro σ79 _ _ ⟨rfl,f81,k80⟩;have f82:=(k80 0 rfl).trans f66;have f83:=(k80 1 rfl).trans f67;have f84:=(k80 2 rfl).trans f68;have f86:=(k80 8 rfl).trans f70;have f87:=(k80 9 rfl).trans f71;have f90:=(k80 14 rfl).trans f74;have f91:=(k80 11 rfl).trans f75;have f92:=(k80 10 rfl).trans f76;have k93 : Keep [9,10,11] 14 89 σ10 σ79:=Keep.trans k65 (Keep.sub k80 rfl);refine k_mov f81 (gL fun σ94 e95=>?_);have k96 : Keep [9,10,11] 14 89 σ10 σ94:=by rw [e95]; repeat (first | exact k93 | refine Keep.upd ?_ rfl _)
   have f97:=(congrFun e95 0).trans f82;have f98:=(congrFun e95 1).trans f83;have f99:=(congrFun e95 2).trans f84;have f101:=(congrFun e95 8).trans f86;have f102:=(congrFun e95 9).trans f87;have f105:=(congrFun e95 14).trans f90;have f106:=(congrFun e95 11).trans f91;have f107:=(congrFun e95 10).trans f92;have f108 : σ94 29 = V (.bool (((!(y44.Person == x1)) || (decide (y44.At > x2))))):=(congrFun e95 29).trans rfl;refine k_mid (fun σ' hp' _=>hp57 = hp' ∧ σ' 34 = V (.bool ((((!(y44.Person == x1)) || (decide (y44.At > x2))) || (decide (x2 ≥ y44.Until))))) ∧ Keep [] 30 34 σ94 σ') ?_ ?_
   ·rcases bt (((!(y44.Person == x1)) || (decide (y44.At > x2)))) with g109 | g109
    ·refine k_no (f108.trans (cgB g109)) rfl ?_
     refine k_no (f108.trans (cgB g109)) rfl (k_no (f108.trans (cgB g109)) rfl (k_no (f108.trans (cgB g109)) rfl (k_pickT (f108.trans (cgB g109)) rfl ?_)));exact ⟨rfl,cgB (by rw [g109]; rfl),(by repeat (first | exact (Keep.refl _ _ _ _) | refine Keep.upd ?_ rfl _))⟩
    ·refine k_yes (f108.trans (cgB g109)) ?_
     refine k_mov f99 (k_yes (f108.trans (cgB g109)) (k_fadrB (o:=4) f106 k58 (k_yes (f108.trans (cgB g109)) (k_loadB rfl k58 rfl (k_yes (f108.trans (cgB g109)) (k_bin rfl rfl rfl (k_pickF (f108.trans (cgB g109)) rfl ?_)))))));exact ⟨rfl,cgB (by rw [g109]; rfl),(by repeat (first | exact (Keep.refl _ _ _ _) | refine Keep.upd ?_ rfl _))⟩
   rintro σ110 _ _ ⟨rfl,f112,k111⟩;have f113:=(k111 0 rfl).trans f97;have f114:=(k111 1 rfl).trans f98;have f115:=(k111 2 rfl).trans f99;have f117:=(k111 8 rfl).trans f101;have f118:=(k111 9 rfl).trans f102;have f121:=(k111 14 rfl).trans f105;have f122:=(k111 11 rfl).trans f106;have f123:=(k111 10 rfl).trans f107;have k124 : Keep [9,10,11] 14 89 σ10 σ110:=Keep.trans k96 (Keep.sub k111 rfl);refine k_nil (wpE_cond (p:=(((!(y44.Person == x1)) || (decide (y44.At > x2))) || (decide (x2 ≥ y44.Until)))) f112 (fun g125=>?_) (fun g125=>?_))
   ·have h:=ctrue h g125
    refine wpE_exit (e_last (k_bin f121 rfl rfl (k_mov rfl (k_nil ?_))));cases h
    exact ⟨rfl,f118,rfl,⟨[IV.str w25.Person,IV.str w25.Device,IV.int .i64 w25.State,IV.int .i64 w25.At,IV.int .i64 w25.Until,IV.str w25.Note],k62,(uR0.mk)⟩,(by repeat (first | exact k124 | refine Keep.upd ?_ rfl _)),r60⟩
   ·have h:=cfalse h g125
    refine wpE_skip (wpE_seq (e_regD (by kernel_rfl) (by kernel_rfl) (k_mov f123 (k_bin rfl rfl rfl (k_mov f113 (k_len rfl (sv.any [] _ hx0) (k_bin rfl rfl rfl (k_mov rfl (gL fun σ126 e127=>?_)))))))));have k128 : Keep [9,10,11] 14 89 σ10 σ126:=by rw [e127]; repeat (first | exact k124 | refine Keep.upd ?_ rfl _)
    have f129:=(congrFun e127 0).trans f113;have f130:=(congrFun e127 1).trans f114;have f131:=(congrFun e127 2).trans f115;have f133:=(congrFun e127 8).trans f117;have f134:=(congrFun e127 9).trans f118;have f137:=(congrFun e127 14).trans f121;have f138:=(congrFun e127 11).trans f122;have f139:=(congrFun e127 10).trans f123;have f140 : σ126 40 = V (.bool ((decide (((IntKind.wrap .i64 (w24 + ((1 : Int))))) < ((List.length x0 : Int)))))):=(congrFun e127 40).trans rfl;obtain ⟨y150,e151,h⟩:=obind h;refine k_mid (fun σ' hp' _=>hp57 = hp' ∧ σ' 49 = V (.bool y150) ∧ Keep [] 41 49 σ126 σ') ?_ ?_
    ·rcases bt ((decide (((IntKind.wrap .i64 (w24 + ((1 : Int))))) < ((List.length x0 : Int))))) with g141 | g141
     ·have h:=ctrue e151 g141
      refine k_yes (f140.trans (cgB g141)) (k_mov f129 (k_yes (f140.trans (cgB g141)) (k_mov f139 (k_yes (f140.trans (cgB g141)) (k_bin rfl rfl rfl (k_yes (f140.trans (cgB g141)) ?_))))));obtain ⟨y142,e143,h⟩:=obind h;refine k_iadrL rfl (sv.any [] _ hx0) rfl e143 rfl fun p144 c145 q146 h147=>?_;obtain ⟨_,rfl⟩:=uR0.inv h147;refine k_yes (f140.trans (cgB g141)) (k_fadrL (o:=0) rfl q146 (nlt rfl) fun p148 q149=>?_);refine k_yes (f140.trans (cgB g141)) (k_loadL rfl q149 rfl (k_yes (f140.trans (cgB g141)) (k_mov f130 (k_yes (f140.trans (cgB g141)) (k_bin rfl rfl rfl (k_pickT (f140.trans (cgB g141)) rfl ?_))))));exact ⟨rfl,cgB (Option.some.inj h),(by repeat (first | exact (Keep.refl _ _ _ _) | refine Keep.upd ?_ rfl _))⟩
     ·have h:=cfalse e151 g141
      refine k_no (f140.trans (cgB g141)) rfl (k_no (f140.trans (cgB g141)) rfl (k_no (f140.trans (cgB g141)) rfl (k_no (f140.trans (cgB g141)) rfl (k_no (f140.trans (cgB g141)) rfl (k_no (f140.trans (cgB g141)) rfl (k_no (f140.trans (cgB g141)) rfl (k_no (f140.trans (cgB g141)) rfl (k_pickF (f140.trans (cgB g141)) rfl ?_))))))));exact ⟨rfl,cgB (Option.some.inj h),(by repeat (first | exact (Keep.refl _ _ _ _) | refine Keep.upd ?_ rfl _))⟩
    rintro σ152 _ _ ⟨rfl,f154,k153⟩;have f155:=(k153 0 rfl).trans f129;have f157:=(k153 2 rfl).trans f131;have f159:=(k153 8 rfl).trans f133;have f160:=(k153 9 rfl).trans f134;have f163:=(k153 14 rfl).trans f137;have f164:=(k153 11 rfl).trans f138;have f165:=(k153 10 rfl).trans f139;have k166 : Keep [9,10,11] 14 89 σ10 σ152:=Keep.trans k128 (Keep.sub k153 rfl);refine k_mov f154 (gL fun σ167 e168=>?_);have k169 : Keep [9,10,11] 14 89 σ10 σ167:=by rw [e168]; repeat (first | exact k166 | refine Keep.upd ?_ rfl _)
    have f170:=(congrFun e168 0).trans f155;have f172:=(congrFun e168 2).trans f157;have f174:=(congrFun e168 8).trans f159;have f175:=(congrFun e168 9).trans f160;have f178:=(congrFun e168 14).trans f163;have f179:=(congrFun e168 11).trans f164;have f180:=(congrFun e168 10).trans f165;have f181 : σ167 50 = V (.bool y150):=(congrFun e168 50).trans rfl;obtain ⟨y191,e192,h⟩:=obind h;refine k_mid (fun σ' hp' _=>hp57 = hp' ∧ σ' 60 = V (.bool y191) ∧ Keep [] 51 60 σ167 σ') ?_ ?_
    ·rcases bt y150 with g182 | g182
     ·have h:=ctrue e192 g182
      refine k_yes (f181.trans (cgB g182)) (k_mov f170 (k_yes (f181.trans (cgB g182)) (k_mov f180 (k_yes (f181.trans (cgB g182)) (k_bin rfl rfl rfl (k_yes (f181.trans (cgB g182)) ?_))))));obtain ⟨y183,e184,h⟩:=obind h;refine k_iadrL rfl (sv.any [] _ hx0) rfl e184 rfl fun p185 c186 q187 h188=>?_;obtain ⟨_,rfl⟩:=uR0.inv h188;refine k_yes (f181.trans (cgB g182)) (k_fadrL (o:=1) rfl q187 (nlt rfl) fun p189 q190=>?_);refine k_yes (f181.trans (cgB g182)) (k_loadL rfl q190 rfl (k_yes (f181.trans (cgB g182)) (k_fadrB (o:=1) f179 k58 (k_yes (f181.trans (cgB g182)) (k_loadB rfl k58 rfl (k_yes (f181.trans (cgB g182)) (k_bin rfl rfl rfl (k_pickT (f181.trans (cgB g182)) rfl ?_))))))));exact ⟨rfl,cgB (Option.some.inj h),(by repeat (first | exact (Keep.refl _ _ _ _) | refine Keep.upd ?_ rfl _))⟩
     ·have h:=cfalse e192 g182
      refine k_no (f181.trans (cgB g182)) rfl (k_no (f181.trans (cgB g182)) rfl (k_no (f181.trans (cgB g182)) rfl (k_no (f181.trans (cgB g182)) rfl (k_no (f181.trans (cgB g182)) rfl (k_no (f181.trans (cgB g182)) rfl (k_no (f181.trans (cgB g182)) rfl (k_no (f181.trans (cgB g182)) rfl (k_no (f181.trans (cgB g182)) rfl (k_pickF (f181.trans (cgB g182)) rfl ?_)))))))));exact ⟨rfl,cgB (Option.some.inj h),(by repeat (first | exact (Keep.refl _ _ _ _) | refine Keep.upd ?_ rfl _))⟩
    rintro σ193 _ _ ⟨rfl,f195,k194⟩;have f196:=(k194 0 rfl).trans f170;have f198:=(k194 2 rfl).trans f172;have f200:=(k194 8 rfl).trans f174;have f201:=(k194 9 rfl).trans f175;have f204:=(k194 14 rfl).trans f178;have f205:=(k194 11 rfl).trans f179;have f206:=(k194 10 rfl).trans f180;have k207 : Keep [9,10,11] 14 89 σ10 σ193:=Keep.trans k169 (Keep.sub k194 rfl);refine k_mov f195 (gL fun σ208 e209=>?_);have k210 : Keep [9,10,11] 14 89 σ10 σ208:=by rw [e209]; repeat (first | exact k207 | refine Keep.upd ?_ rfl _)
    have f211:=(congrFun e209 0).trans f196;have f213:=(congrFun e209 2).trans f198;have f215:=(congrFun e209 8).trans f200;have f216:=(congrFun e209 9).trans f201;have f219:=(congrFun e209 14).trans f204;have f220:=(congrFun e209 11).trans f205;have f221:=(congrFun e209 10).trans f206;have f222 : σ208 61 = V (.bool y191):=(congrFun e209 61).trans rfl;obtain ⟨y232,e233,h⟩:=obind h;refine k_mid (fun σ' hp' _=>hp57 = hp' ∧ σ' 70 = V (.bool y232) ∧ Keep [] 62 70 σ208 σ') ?_ ?_
    ·rcases bt y191 with g223 | g223
     ·have h:=ctrue e233 g223
      refine k_yes (f222.trans (cgB g223)) (k_mov f211 (k_yes (f222.trans (cgB g223)) (k_mov f221 (k_yes (f222.trans (cgB g223)) (k_bin rfl rfl rfl (k_yes (f222.trans (cgB g223)) ?_))))));obtain ⟨y224,e225,h⟩:=obind h;refine k_iadrL rfl (sv.any [] _ hx0) rfl e225 rfl fun p226 c227 q228 h229=>?_;obtain ⟨_,rfl⟩:=uR0.inv h229;refine k_yes (f222.trans (cgB g223)) (k_fadrL (o:=3) rfl q228 (nlt rfl) fun p230 q231=>?_);refine k_yes (f222.trans (cgB g223)) (k_loadL rfl q231 rfl (k_yes (f222.trans (cgB g223)) (k_mov f213 (k_yes (f222.trans (cgB g223)) (k_bin rfl rfl rfl (k_pickT (f222.trans (cgB g223)) rfl ?_))))));exact ⟨rfl,cgB (Option.some.inj h),(by repeat (first | exact (Keep.refl _ _ _ _) | refine Keep.upd ?_ rfl _))⟩
     ·have h:=cfalse e233 g223
      refine k_no (f222.trans (cgB g223)) rfl (k_no (f222.trans (cgB g223)) rfl (k_no (f222.trans (cgB g223)) rfl (k_no (f222.trans (cgB g223)) rfl (k_no (f222.trans (cgB g223)) rfl (k_no (f222.trans (cgB g223)) rfl (k_no (f222.trans (cgB g223)) rfl (k_no (f222.trans (cgB g223)) rfl (k_pickF (f222.trans (cgB g223)) rfl ?_))))))));exact ⟨rfl,cgB (Option.some.inj h),(by repeat (first | exact (Keep.refl _ _ _ _) | refine Keep.upd ?_ rfl _))⟩
    rintro σ234 _ _ ⟨rfl,f236,k235⟩;have f241:=(k235 8 rfl).trans f215;have f242:=(k235 9 rfl).trans f216;have f245:=(k235 14 rfl).trans f219;have f246:=(k235 11 rfl).trans f220;have k247 : Keep [9,10,11] 14 89 σ10 σ234:=Keep.trans k210 (Keep.sub k235 rfl);refine k_nil (wpE_cond (p:=y232) f236 (fun g248=>?_) (fun g248=>?_))
    ·have h:=ctrue h g248
     refine wpE_exit (e_last (k_bin f245 rfl rfl (k_mov rfl (k_nil ?_))));cases h
     exact ⟨rfl,f242,rfl,⟨[IV.str w25.Person,IV.str w25.Device,IV.int .i64 w25.State,IV.int .i64 w25.At,IV.int .i64 w25.Until,IV.str w25.Note],k62,(uR0.mk)⟩,(by repeat (first | exact k247 | refine Keep.upd ?_ rfl _)),r60⟩
    ·have h:=cfalse h g248
     refine wpE_skip (e_regD (by kernel_rfl) (by kernel_rfl) (k_mov f242 (k_not rfl (k_mov rfl (gL fun σ249 e250=>?_)))));have k251 : Keep [9,10,11] 14 89 σ10 σ249:=by rw [e250]; repeat (first | exact k247 | refine Keep.upd ?_ rfl _)
     have f256:=(congrFun e250 8).trans f241;have f257:=(congrFun e250 9).trans f242;have f260:=(congrFun e250 14).trans f245;have f261:=(congrFun e250 11).trans f246;have f262 : σ249 73 = V (.bool (!w23)):=(congrFun e250 73).trans rfl;obtain ⟨y274,e275,h⟩:=obind h;refine k_mid (fun σ' hp' _=>hp57 = hp' ∧ σ' 87 = V (.bool y274) ∧ Keep [] 74 87 σ249 σ') ?_ ?_
     ·rcases bt (!w23) with g263 | g263
      ·have h:=ctrue e275 g263
       refine k_no (f262.trans (cgB g263)) rfl (k_no (f262.trans (cgB g263)) rfl (k_no (f262.trans (cgB g263)) rfl (k_no (f262.trans (cgB g263)) rfl (k_no (f262.trans (cgB g263)) rfl (k_no (f262.trans (cgB g263)) rfl (k_no (f262.trans (cgB g263)) rfl (k_no (f262.trans (cgB g263)) rfl (k_no (f262.trans (cgB g263)) rfl (k_no (f262.trans (cgB g263)) rfl ?_)))))))));refine k_no (f262.trans (cgB g263)) rfl (k_no (f262.trans (cgB g263)) rfl (k_no (f262.trans (cgB g263)) rfl (k_pickT (f262.trans (cgB g263)) rfl ?_)));exact ⟨rfl,cgB (Option.some.inj h),(by repeat (first | exact (Keep.refl _ _ _ _) | refine Keep.upd ?_ rfl _))⟩
      ·have h:=cfalse e275 g263
       refine k_yes (f262.trans (cgB g263)) (k_fadrB (o:=2) f261 k58 (k_yes (f262.trans (cgB g263)) (k_loadB rfl k58 rfl (k_yes (f262.trans (cgB g263)) (k_fadrB (o:=2) f256 k62 (k_yes (f262.trans (cgB g263)) (k_loadB rfl k62 rfl (k_yes (f262.trans (cgB g263)) ?_))))))));obtain ⟨y264,e265,h⟩:=obind h;refine k_call (.cons rfl rfl (.cons rfl rfl .nil)) (s55  e265) (.inl rfl) ?_;rintro _ rfl;refine k_yes (f262.trans (cgB g263)) (k_fadrB (o:=3) f261 k58 (k_yes (f262.trans (cgB g263)) (k_loadB rfl k58 rfl (k_yes (f262.trans (cgB g263)) (k_fadrB (o:=3) f256 k62 (k_yes (f262.trans (cgB g263)) (k_loadB rfl k62 rfl (k_yes (f262.trans (cgB g263)) ?_))))))));obtain ⟨y267,e268,h⟩:=obind h;refine k_call (.cons rfl rfl (.cons rfl rfl .nil)) (s55  e268) (.inl rfl) ?_;rintro _ rfl;refine k_yes (f262.trans (cgB g263)) (k_bslI (len:=2) (z:=IV.int .i64 ((0 : Int))) (vs:=[IV.int .i64 y264,IV.int .i64 y267]) (.cons rfl (.cons rfl .nil)) (by decide) rfl ?_);have o270 : sv (Rep.int .i64) true (.lit 0 [IV.int .i64 y264,IV.int .i64 y267] 2) ([y264,y267] : List Int):=sv_lit true (⟨[IV.int .i64 y264],_,rfl,rfl,⟨[IV.int .i64 y267],_,rfl,rfl,rfl⟩⟩) rfl;refine k_yes (f262.trans (cgB g263)) ?_;obtain ⟨y271,e272,h⟩:=obind h;refine k_call (.cons rfl rfl .nil) (s53 (sv_retag o270) e272) (.inl rfl) ?_;rintro _ rfl;refine k_yes (f262.trans (cgB g263)) (k_bin rfl rfl rfl (k_pickF (f262.trans (cgB g263)) rfl ?_))
       exact ⟨rfl,cgB (Option.some.inj h),(by repeat (first | exact (Keep.refl _ _ _ _) | refine Keep.upd ?_ rfl _))⟩
     rintro σ276 _ _ ⟨rfl,f278,k277⟩;have f283:=(k277 8 rfl).trans f256;have f284:=(k277 9 rfl).trans f257;have f287:=(k277 14 rfl).trans f260;have f288:=(k277 11 rfl).trans f261;have k289 : Keep [9,10,11] 14 89 σ10 σ276:=Keep.trans k251 (Keep.sub k277 rfl);refine k_nil (wpE_cond (p:=y274) f278 (fun g290=>?_) (fun g290=>?_))
     ·have h:=ctrue h g290
      refine e_last (k_loadB f288 k58 rfl (k_storeB f283 rfl k62 rfl fun hp291 k292 r293=>?_));have r294 : Fr [8,11] hp6 hp291:=Fr.ext r60 r293 rfl;refine k_mov rfl (k_nil (e_last (k_bin f287 rfl rfl (k_mov rfl (k_nil ?_)))));cases h
      exact ⟨rfl,rfl,rfl,⟨[IV.str y44.Person,IV.str y44.Device,IV.int .i64 y44.State,IV.int .i64 y44.At,IV.int .i64 y44.Until,IV.str y44.Note],k292,(uR0.mk)⟩,(by repeat (first | exact k289 | refine Keep.upd ?_ rfl _)),r294⟩
     ·have h:=cfalse h g290
      refine wpE_skip (e_last (k_bin f287 rfl rfl (k_mov rfl (k_nil ?_))));cases h
      exact ⟨rfl,f284,rfl,⟨[IV.str w25.Person,IV.str w25.Device,IV.int .i64 w25.State,IV.int .i64 w25.At,IV.int .i64 w25.Until,IV.str w25.Note],k62,(uR0.mk)⟩,(by repeat (first | exact k289 | refine Keep.upd ?_ rfl _)),r60⟩
  ·have h:=cfalse h g43
   refine wpE_exit ?_;cases h
   exact ⟨by decide,rfl,f26,⟨[IV.str w25.Person,IV.str w25.Device,IV.int .i64 w25.State,IV.int .i64 w25.At,IV.int .i64 w25.Until,IV.str w25.Note],k29,(uR0.mk)⟩,(by repeat (first | exact k33 | refine Keep.upd ?_ rfl _)),r34⟩
 obtain ⟨y296,y297⟩:=e21;rintro _ σ298 hp299 _ ⟨rfl,f302,⟨c303,k304,h305⟩,k300,r301⟩;have f306:=(k300 6 rfl).trans f15;have f307:=(k300 8 rfl).trans f16;have k308:=(r301 6 (by decide)).trans k9;obtain ⟨_,rfl⟩:=uR0.inv h305;refine e_reg (k_loadB f307 k304 rfl (k_mov f302 (k_storeB f306 rfl k308 rfl fun hp309 k310 r311=>?_)));refine k_mov rfl (k_nil (wpE_ret ?_));cases h
 exact e_ret (ct:=0) (.cell f306 k310 rfl (BackP.agg (.cons (backC_inl fun _=>rfl) (.cons (backC_inl fun _=>rfl) (.cons (backC_inl fun _=>rfl) (.cons (backC_inl fun _=>rfl) (.cons (backC_inl fun _=>rfl) (.cons (backC_inl fun _=>rfl) .nil))))))) (.tmp rfl (back_sc rfl) .nil)) ⟨[IV.str y297.Person,IV.str y297.Device,IV.int .i64 y297.State,IV.int .i64 y297.At,IV.int .i64 y297.Until,IV.str y297.Note],rfl,(uR0.mk)⟩
end Go.Proofs.YtnpbglnfnhejiaaGreatDoor

/-
 The small code of functions comes to the Lean functions. Printed by a program of mine.
-/
namespace Go.Proofs.YtnpbglnfnhejiaaGreatDoor
open Go Go.Abs
set_option maxRecDepth 100000
set_option maxHeartbeats 8000000
variable {mx : Int}
theorem s27 {x0 : List uT0} {vx0 : IV} {x1 : List UInt8} {x2 : uT2} {cx2 : List IV} {r : List uT0 × Int} (hx0 : sv uR0 false vx0 x0) (hx2 : uR2.rp false cx2 x2) (h : uF27c x0 x1 x2 = some r) : pc (L mx) 27 [.c (I vx0),.c (I (.str x1)),.agg (cx2.map I)] true (P27 r):=by
 refine fn_pure (fn:=ir27) rfl (nlt rfl) fun lent hl=>?_;unfold uF27c at h;obtain ⟨_,rfl⟩:=uR2.inv hx2;refine e_reg (k_box rfl rfl fun g1 hp2 k3 r4=>?_);refine k_mov rfl (k_mov rfl (k_nil (wpE_seq (e_reg (k_mov rfl ?_)))));obtain ⟨y5,e6,h⟩:=obind h;refine k_call (.cons rfl rfl .nil) (s67 (sv_retag hx0) e6) (.inl rfl) ?_;rintro _ rfl;refine k_mov rfl (k_nil (e_reg (k_mov rfl (k_bin rfl rfl rfl (k_nil (wpE_cond (p:=(y5 != ((0 : Int)))) rfl (fun g8=>?_) (fun g8=>?_)))))))
 ·have h:=ctrue h g8
  refine e_reg (k_mov rfl (k_mov rfl (k_mov rfl (k_nil (wpE_ret ?_)))));cases h
  exact e_ret (ct:=0) (.tmp rfl (back_c (backC_inl fun _=>sv_fresh (sv_nil uR0 true))) (.tmp rfl (back_sc rfl) .nil)) ⟨IV.nilS,rfl,(sv_nil uR0 true)⟩
 ·have h:=cfalse h g8
  refine wpE_skip (wpE_seq (e_reg (k_mov rfl ?_)));obtain ⟨y9,e10,h⟩:=obind h;refine k_call (.cons rfl rfl .nil) (s57  e10) (.inl rfl) ?_;rintro _ rfl;refine k_not rfl (k_nil (wpE_cond (p:=(!y9)) rfl (fun g12=>?_) (fun g12=>?_)))
  ·have h:=ctrue h g12
   refine e_reg (k_mov rfl (k_mov rfl (k_nil (wpE_ret ?_))));cases h
   exact e_ret (ct:=0) (.tmp rfl (back_c (backC_inl fun _=>sv_fresh (sv_nil uR0 true))) (.tmp rfl (back_sc rfl) .nil)) ⟨IV.nilS,rfl,(sv_nil uR0 true)⟩
  ·have h:=cfalse h g12
   refine wpE_skip (wpE_seq (e_reg (k_fadrB (o:=0) rfl k3 (k_loadB rfl k3 rfl (k_bin rfl rfl rfl (k_mov rfl (gL fun σ13 e14=>?_)))))));have f15 : σ13 0 = .v (.c ((I vx0))):=(congrFun e14 0).trans rfl;have f16 : σ13 1 = V (.str x1):=(congrFun e14 1).trans rfl;have f17 : σ13 5 = .v (.c (.r (.ptr 5 g1 0))):=(congrFun e14 5).trans rfl;have f18 : σ13 31 = V (.bool ((decide (x2.From < ((0 : Int)))))):=(congrFun e14 31).trans rfl;refine k_mid (fun σ' hp' _=>hp2 = hp' ∧ σ' 37 = V (.bool (((decide (x2.From < ((0 : Int)))) || (decide (x2.From > x2.To))))) ∧ Keep [] 32 37 σ13 σ') ?_ ?_
   ·rcases bt ((decide (x2.From < ((0 : Int))))) with g19 | g19
    ·refine k_no (f18.trans (cgB g19)) rfl ?_
     refine k_no (f18.trans (cgB g19)) rfl (k_no (f18.trans (cgB g19)) rfl (k_no (f18.trans (cgB g19)) rfl (k_no (f18.trans (cgB g19)) rfl (k_pickT (f18.trans (cgB g19)) rfl ?_))));exact ⟨rfl,cgB (by rw [g19]; rfl),(by repeat (first | exact (Keep.refl _ _ _ _) | refine Keep.upd ?_ rfl _))⟩
    ·refine k_yes (f18.trans (cgB g19)) ?_
     refine k_fadrB (o:=0) f17 k3 (k_yes (f18.trans (cgB g19)) (k_loadB rfl k3 rfl (k_yes (f18.trans (cgB g19)) (k_fadrB (o:=1) f17 k3 (k_yes (f18.trans (cgB g19)) (k_loadB rfl k3 rfl (k_yes (f18.trans (cgB g19)) (k_bin rfl rfl rfl (k_pickF (f18.trans (cgB g19)) rfl ?_)))))))));exact ⟨rfl,cgB (by rw [g19]; rfl),(by repeat (first | exact (Keep.refl _ _ _ _) | refine Keep.upd ?_ rfl _))⟩
   rintro σ20 _ _ ⟨rfl,f22,k21⟩;have f23:=(k21 0 rfl).trans f15;have f24:=(k21 1 rfl).trans f16;have f25:=(k21 5 rfl).trans f17;refine k_mov f22 (gL fun σ26 e27=>?_);have f28:=(congrFun e27 0).trans f23;have f29:=(congrFun e27 1).trans f24;have f30:=(congrFun e27 5).trans f25;have f31 : σ26 38 = V (.bool (((decide (x2.From < ((0 : Int)))) || (decide (x2.From > x2.To))))):=(congrFun e27 38).trans rfl;refine k_mid (fun σ' hp' _=>hp2 = hp' ∧ σ' 42 = V (.bool ((((decide (x2.From < ((0 : Int)))) || (decide (x2.From > x2.To))) || (decide (x2.To > ((345686400000 : Int))))))) ∧ Keep [] 39 42 σ26 σ') ?_ ?_
   ·rcases bt (((decide (x2.From < ((0 : Int)))) || (decide (x2.From > x2.To)))) with g32 | g32
    ·refine k_no (f31.trans (cgB g32)) rfl ?_
     refine k_no (f31.trans (cgB g32)) rfl (k_no (f31.trans (cgB g32)) rfl (k_pickT (f31.trans (cgB g32)) rfl ?_));exact ⟨rfl,cgB (by rw [g32]; rfl),(by repeat (first | exact (Keep.refl _ _ _ _) | refine Keep.upd ?_ rfl _))⟩
    ·refine k_yes (f31.trans (cgB g32)) ?_
     refine k_fadrB (o:=1) f30 k3 (k_yes (f31.trans (cgB g32)) (k_loadB rfl k3 rfl (k_yes (f31.trans (cgB g32)) (k_bin rfl rfl rfl (k_pickF (f31.trans (cgB g32)) rfl ?_)))));exact ⟨rfl,cgB (by rw [g32]; rfl),(by repeat (first | exact (Keep.refl _ _ _ _) | refine Keep.upd ?_ rfl _))⟩
   rintro σ33 _ _ ⟨rfl,f35,k34⟩;have f36:=(k34 0 rfl).trans f28;have f37:=(k34 1 rfl).trans f29;have f38:=(k34 5 rfl).trans f30;refine k_nil (wpE_cond (p:=(((decide (x2.From < ((0 : Int)))) || (decide (x2.From > x2.To))) || (decide (x2.To > ((345686400000 : Int)))))) f35 (fun g39=>?_) (fun g39=>?_))
   ·have h:=ctrue h g39
    refine e_reg (k_mov rfl (k_mov rfl (k_nil (wpE_ret ?_))));cases h
    exact e_ret (ct:=0) (.tmp rfl (back_c (backC_inl fun _=>sv_fresh (sv_nil uR0 true))) (.tmp rfl (back_sc rfl) .nil)) ⟨IV.nilS,rfl,(sv_nil uR0 true)⟩
   ·have h:=cfalse h g39
    refine wpE_skip (e_reg (k_fadrB (o:=0) f38 k3 (k_loadB rfl k3 rfl (k_fadrB (o:=1) f38 k3 (k_loadB rfl k3 rfl (k_bslIN (E:=(Rep.int .i64)) (f:=true) (len:=2) (z:=IV.int .i64 ((0 : Int))) (vs:=[IV.int .i64 x2.From,IV.int .i64 x2.To]) (xs:=([x2.From,x2.To] : List Int)) (.cons rfl (.cons rfl .nil)) (by decide) rfl (⟨[IV.int .i64 x2.From],_,rfl,rfl,⟨[IV.int .i64 x2.To],_,rfl,rfl,rfl⟩⟩) rfl rfl fun a41 hp42 o43 n45 r44=>?_))))));have k46:=(r44 5 (by decide)).trans k3;refine k_mov rfl (k_nil (wpE_seq (e_reg (k_mov f36 (k_len rfl (sv.any [] _ hx0) (k_mov rfl (k_nil (wpE_block (gE fun σ47 e48=>?_)))))))));have f49:=(congrFun e48 0).trans f36;have f50:=(congrFun e48 1).trans f37;have f51:=(congrFun e48 5).trans f38;have f52 : σ47 9 = .v (.c a41):=(congrFun e48 9).trans rfl;have f53 : σ47 48 = .v (.c ((I vx0))):=(congrFun e48 48).trans rfl;have f54 : σ47 49 = V (.int .i64 ((List.length x0 : Int))):=(congrFun e48 49).trans rfl;have f55 : σ47 50 = V (.int .i64 ((0 : Int))):=(congrFun e48 50).trans rfl;obtain ⟨y245,h57,h⟩:=obind h
    refine wpE_mono (e_loop h57 (I:=fun s σ' hp' _=>(∃ a,σ' 9 = .v (.c a) ∧ so [47] (Rep.int .i64) true hp' a s.1 ∧ nn a) ∧ σ' 50 = V (.int .i64 s.2) ∧ Keep [9,11,13] 50 85 σ47 σ' ∧ Fr [11,47,83] hp42 hp') (X:=fun e ex σ' hp' _=>ex = .exit 0 ∧ (∃ a,σ' 9 = .v (.c a) ∧ so [47] (Rep.int .i64) true hp' a e ∧ nn a) ∧ Keep [9,11,13] 50 85 σ47 σ' ∧ Fr [11,47,83] hp42 hp') ⟨⟨_,f52,((o43).wide rfl),n45⟩,f55,Keep.refl _ _ _ _,Fr.refl _ _⟩ ?_) ?_
    ·clear h
     rintro ⟨w58,w59⟩ o σ65 hp66 _ h ⟨⟨a60,f61,o62,n63⟩,f64,k67,r68⟩;have h : uF27 x0 x1 x2 w58 w59 = some o:=h; unfold uF27 at h;have f70:=(k67 1 rfl).trans f50;have f71:=(k67 5 rfl).trans f51;have f72:=(k67 48 rfl).trans f53;have f73:=(k67 49 rfl).trans f54;have k74:=(r68 5 (by decide)).trans k46;refine e_reg (k_bin f64 f73 rfl (k_nil (wpE_seq (wpE_cond (p:=(decide (w59 < ((List.length x0 : Int))))) rfl (fun g75=>?_) (fun g75=>?_)))))
     ·have h:=ctrue h g75
      refine wpE_skip (wpE_seq (wpE_block (e_reg ?_)));obtain ⟨y76,e77,h⟩:=obind h;refine k_iadrL f72 (sv.any [] _ hx0) f64 e77 rfl fun p78 c79 q80 h81=>?_;obtain ⟨_,rfl⟩:=uR0.inv h81;refine k_loadL rfl q80 rfl (k_alloc fun g82 hp83 k84 r85=>?_);have r86 : Fr [11,47,83] hp42 hp83:=Fr.ext r68 r85 rfl;have o87:=o62.fr r85 rfl;have k88:=(r85 5 (by decide)).trans k74;refine k_storeB rfl rfl k84 rfl fun hp89 k90 r91=>?_;have r92 : Fr [11,47,83] hp42 hp89:=Fr.ext r86 r91 rfl;have o93:=o87.fr r91 rfl;have k94:=(r91 5 (by decide)).trans k88;refine k_nil (e_reg (k_fadrB (o:=3) rfl k90 (k_loadB rfl k90 rfl (k_fadrB (o:=4) rfl k90 (k_loadB rfl k90 rfl (k_bslI (len:=2) (z:=IV.int .i64 ((0 : Int))) (vs:=[IV.int .i64 y76.At,IV.int .i64 y76.Until]) (.cons rfl (.cons rfl .nil)) (by decide) rfl ?_))))));have o95 : sv (Rep.int .i64) true (.lit 0 [IV.int .i64 y76.At,IV.int .i64 y76.Until] 2) ([y76.At,y76.Until] : List Int):=sv_lit true (⟨[IV.int .i64 y76.At],_,rfl,rfl,⟨[IV.int .i64 y76.Until],_,rfl,rfl,rfl⟩⟩) rfl;refine k_len rfl (sv.any [] _ o95) (k_mov rfl (k_nil (wpE_block (gE fun σ96 e97=>?_))));have k98 : Keep [9,11,13] 50 85 σ47 σ96:=by rw [e97]; repeat (first | exact k67 | refine Keep.upd ?_ rfl _)
      have f100:=(congrFun e97 1).trans f70;have f101:=(congrFun e97 5).trans f71;have f102:=(congrFun e97 9).trans f61;have f105:=(congrFun e97 50).trans f64;have f106 : σ96 11 = .v (.c (.r (.ptr 11 g82 0))):=(congrFun e97 11).trans rfl;have f107 : σ96 58 = .v (.c ((I (.lit 0 [IV.int .i64 y76.At,IV.int .i64 y76.Until] 2)))):=(congrFun e97 58).trans rfl;have f108 : σ96 59 = V (.int .i64 ((List.length (([y76.At,y76.Until] : List Int)) : Int))):=(congrFun e97 59).trans rfl;have f109 : σ96 60 = V (.int .i64 ((0 : Int))):=(congrFun e97 60).trans rfl;obtain ⟨y227,h111,h⟩:=obind h;refine wpE_mono (e_loop h111 (I:=fun s σ' hp' _=>(∃ a,σ' 9 = .v (.c a) ∧ so [47] (Rep.int .i64) true hp' a s.1 ∧ nn a) ∧ σ' 60 = V (.int .i64 s.2) ∧ Keep [9,13] 60 84 σ96 σ' ∧ Fr [47,83] hp89 hp') (X:=fun e ex σ' hp' _=>ex = .exit 2 ∧ (∃ a,σ' 9 = .v (.c a) ∧ so [47] (Rep.int .i64) true hp' a e ∧ nn a) ∧ Keep [9,13] 60 84 σ96 σ' ∧ Fr [47,83] hp89 hp') ⟨⟨_,f102,((o93).wide rfl),n63⟩,f109,Keep.refl _ _ _ _,Fr.refl _ _⟩ ?_) ?_
      ·clear h
       rintro ⟨w112,w113⟩ o σ119 hp120 _ h ⟨⟨a114,f115,o116,n117⟩,f118,k121,r122⟩;have h : uF27a x1 x2 y76 w112 w113 = some o:=h; unfold uF27a at h;have f124:=(k121 1 rfl).trans f100;have f125:=(k121 5 rfl).trans f101;have f129:=(k121 11 rfl).trans f106;have f130:=(k121 58 rfl).trans f107;have f131:=(k121 59 rfl).trans f108;have k134:=(r122 5 (by decide)).trans k94;have k135:=(r122 11 (by decide)).trans k90;refine e_reg (k_bin f118 f131 rfl (k_nil (wpE_seq (wpE_cond (p:=(decide (w113 < ((List.length (([y76.At,y76.Until] : List Int)) : Int))))) rfl (fun g136=>?_) (fun g136=>?_)))))
       ·have h:=ctrue h g136
        refine wpE_skip (wpE_seq (wpE_block (e_reg ?_)));obtain ⟨y137,e138,h⟩:=obind h;refine k_iadrL f130 (sv.any [] _ o95) f118 e138 rfl fun p139 c140 q141 h142=>?_;obtain rfl : c140 = [IV.int .i64 y137]:=h142;refine k_loadL rfl q141 rfl (k_mov rfl (k_nil (e_reg (k_fadrB (o:=0) f129 k135 (k_loadB rfl k135 rfl (k_mov f124 (k_bin rfl rfl rfl (k_mov rfl (gL fun σ143 e144=>?_)))))))));have k146 : Keep [9,13] 60 84 σ96 σ143:=by rw [e144]; repeat (first | exact k121 | refine Keep.upd ?_ rfl _)
        have f149:=(congrFun e144 5).trans f125;have f150:=(congrFun e144 9).trans f115;have f157:=(congrFun e144 60).trans f118;have f158 : σ143 13 = V (.int .i64 y137):=(congrFun e144 13).trans rfl;have f159 : σ143 68 = V (.bool ((y76.Person == x1))):=(congrFun e144 68).trans rfl;refine k_mid (fun σ' hp' _=>hp120 = hp' ∧ σ' 73 = V (.bool (((y76.Person == x1) && (decide (y137 > x2.From))))) ∧ Keep [] 69 73 σ143 σ') ?_ ?_
        ·rcases bt ((y76.Person == x1)) with g160 | g160
         ·refine k_yes (f159.trans (cgB g160)) ?_
          refine k_mov f158 (k_yes (f159.trans (cgB g160)) (k_fadrB (o:=0) f149 k134 (k_yes (f159.trans (cgB g160)) (k_loadB rfl k134 rfl (k_yes (f159.trans (cgB g160)) (k_bin rfl rfl rfl (k_pickT (f159.trans (cgB g160)) rfl ?_)))))));exact ⟨rfl,cgB (by rw [g160]; rfl),(by repeat (first | exact (Keep.refl _ _ _ _) | refine Keep.upd ?_ rfl _))⟩
         ·refine k_no (f159.trans (cgB g160)) rfl ?_
          refine k_no (f159.trans (cgB g160)) rfl (k_no (f159.trans (cgB g160)) rfl (k_no (f159.trans (cgB g160)) rfl (k_pickF (f159.trans (cgB g160)) rfl ?_)));exact ⟨rfl,cgB (by rw [g160]; rfl),(by repeat (first | exact (Keep.refl _ _ _ _) | refine Keep.upd ?_ rfl _))⟩
        rintro σ161 _ _ ⟨rfl,f163,k162⟩;have f166:=(k162 5 rfl).trans f149;have f167:=(k162 9 rfl).trans f150;have f174:=(k162 60 rfl).trans f157;have f175:=(k162 13 rfl).trans f158;have k177 : Keep [9,13] 60 84 σ96 σ161:=Keep.trans k146 (Keep.sub k162 rfl);refine k_mov f163 (gL fun σ178 e179=>?_);have k181 : Keep [9,13] 60 84 σ96 σ178:=by rw [e179]; repeat (first | exact k177 | refine Keep.upd ?_ rfl _)
        have f184:=(congrFun e179 5).trans f166;have f185:=(congrFun e179 9).trans f167;have f192:=(congrFun e179 60).trans f174;have f193:=(congrFun e179 13).trans f175;have f194 : σ178 74 = V (.bool (((y76.Person == x1) && (decide (y137 > x2.From))))):=(congrFun e179 74).trans rfl;refine k_mid (fun σ' hp' _=>hp120 = hp' ∧ σ' 79 = V (.bool ((((y76.Person == x1) && (decide (y137 > x2.From))) && (decide (y137 < x2.To))))) ∧ Keep [] 75 79 σ178 σ') ?_ ?_
        ·rcases bt (((y76.Person == x1) && (decide (y137 > x2.From)))) with g195 | g195
         ·refine k_yes (f194.trans (cgB g195)) ?_
          refine k_mov f193 (k_yes (f194.trans (cgB g195)) (k_fadrB (o:=1) f184 k134 (k_yes (f194.trans (cgB g195)) (k_loadB rfl k134 rfl (k_yes (f194.trans (cgB g195)) (k_bin rfl rfl rfl (k_pickT (f194.trans (cgB g195)) rfl ?_)))))));exact ⟨rfl,cgB (by rw [g195]; rfl),(by repeat (first | exact (Keep.refl _ _ _ _) | refine Keep.upd ?_ rfl _))⟩
         ·refine k_no (f194.trans (cgB g195)) rfl ?_
          refine k_no (f194.trans (cgB g195)) rfl (k_no (f194.trans (cgB g195)) rfl (k_no (f194.trans (cgB g195)) rfl (k_pickF (f194.trans (cgB g195)) rfl ?_)));exact ⟨rfl,cgB (by rw [g195]; rfl),(by repeat (first | exact (Keep.refl _ _ _ _) | refine Keep.upd ?_ rfl _))⟩
        rintro σ196 _ _ ⟨rfl,f198,k197⟩;have f202:=(k197 9 rfl).trans f185;have f209:=(k197 60 rfl).trans f192;have f210:=(k197 13 rfl).trans f193;have k212 : Keep [9,13] 60 84 σ96 σ196:=Keep.trans k181 (Keep.sub k197 rfl);refine k_nil (wpE_cond (p:=(((y76.Person == x1) && (decide (y137 > x2.From))) && (decide (y137 < x2.To)))) f198 (fun g213=>?_) (fun g213=>?_))
        ·have h:=ctrue h g213
         refine e_last (k_mov f202 (k_mov f210 (k_bslI (len:=1) (z:=IV.int .i64 ((0 : Int))) (vs:=[IV.int .i64 y137]) (.cons rfl .nil) (by decide) rfl ?_)));have o214 : sv (Rep.int .i64) true (.lit 0 [IV.int .i64 y137] 1) ([y137] : List Int):=sv_lit true (⟨[IV.int .i64 y137],_,rfl,rfl,rfl⟩) rfl;obtain ⟨y220,e221,h⟩:=obind h;refine k_appX (E:=(Rep.int .i64)) (f:=true) rfl o116 n117 rfl (sv.any [] _ o214) e221 rfl fun a215 hp216 ct217 o218 n222 r219=>?_;have r224 : Fr [47,83] hp89 hp216:=Fr.ext r122 r219 rfl;refine k_mov rfl (k_nil (e_last (k_bin f209 rfl rfl (k_mov rfl (k_nil ?_)))));cases h
         exact ⟨rfl,⟨_,rfl,((o218).wide rfl),n222⟩,rfl,(by repeat (first | exact k212 | refine Keep.upd ?_ rfl _)),r224⟩
        ·have h:=cfalse h g213
         refine wpE_skip (e_last (k_bin f209 rfl rfl (k_mov rfl (k_nil ?_))));cases h
         exact ⟨rfl,⟨_,f202,((o116).wide rfl),n117⟩,rfl,(by repeat (first | exact k212 | refine Keep.upd ?_ rfl _)),r122⟩
       ·have h:=cfalse h g136
        refine wpE_exit ?_;cases h
        exact ⟨by decide,rfl,⟨_,f115,((o116).wide rfl),n117⟩,(by repeat (first | exact k121 | refine Keep.upd ?_ rfl _)),r122⟩
      rintro _ σ228 hp229 _ ⟨rfl,⟨a232,f233,o234,n235⟩,k230,r231⟩;have f241:=(k230 50 rfl).trans f105;have k242 : Keep [9,11,13] 50 85 σ47 σ228:=Keep.trans k98 (Keep.sub k230 rfl);have r243 : Fr [11,47,83] hp42 hp229:=Fr.ext r92 r231 rfl;refine e_last (k_bin f241 rfl rfl (k_mov rfl (k_nil ?_)));cases h
      exact ⟨rfl,⟨_,f233,((o234).wide rfl),n235⟩,rfl,(by repeat (first | exact k242 | refine Keep.upd ?_ rfl _)),r243⟩
     ·have h:=cfalse h g75
      refine wpE_exit ?_;cases h
      exact ⟨by decide,rfl,⟨_,f61,((o62).wide rfl),n63⟩,(by repeat (first | exact k67 | refine Keep.upd ?_ rfl _)),r68⟩
    rintro _ σ246 hp247 _ ⟨rfl,⟨a250,f251,o252,n253⟩,k248,r249⟩;have f254:=(k248 0 rfl).trans f49;have f255:=(k248 1 rfl).trans f50;refine e_reg (k_mov f251 ?_);obtain ⟨y256,e257,h⟩:=obind h;refine k_callS (E:=(Rep.int .i64)) (ts:=[]) (fun _ h=>rows_strong (fun _ _ h=>h) h) rfl o252 (fun _=>.nil) rfl (fun _ _ h0=>g68 h0  e257) (fun _ rs h ⟨q1,q2⟩=>⟨q1,q2⟩) fun hp258 o259 r260=>?_;refine k_nil (e_reg (k_mov f251 ?_));obtain ⟨y261,e262,h⟩:=obind h;refine k_callSR (E:=(Rep.int .i64)) (fun _ h=>rows_strong (fun _ _ h=>h) h) rfl o259 (fun _=>.nil) rfl (fun _ _ h0=>g69 h0  e262) (fun _ _ _ ⟨a,q1,q2,q3,q4⟩=>⟨a,q1,q2,q3,q4⟩) fun a263 hp264 ct265 o266 r267=>?_;refine k_mov rfl (k_nil (e_reg (k_mov rfl (k_nil (e_reg (k_build .nil rfl (k_alloc fun g268 hp269 k270 r271=>?_)))))));have o272:=o266.fr r271 rfl;refine k_storeB rfl rfl k270 rfl fun hp273 k274 r275=>?_;have o276:=o272.fr r275 rfl;refine k_nil (wpE_seq (e_reg (k_mov rfl (k_nil (wpE_block (gE fun σ277 e278=>?_))))));have f279:=(congrFun e278 0).trans f254;have f280:=(congrFun e278 1).trans f255;have f281 : σ277 9 = .v (.c a263):=(congrFun e278 9).trans rfl;have f282 : σ277 14 = .v (.c ((I .nilS))):=(congrFun e278 14).trans rfl;have f283 : σ277 15 = .v (.c (.r (.ptr 15 g268 0))):=(congrFun e278 15).trans rfl;have f284 : σ277 16 = V (.int .i64 ((0 : Int))):=(congrFun e278 16).trans rfl;obtain ⟨y442,h286,h⟩:=obind h
    refine wpE_mono (e_loop h286 (I:=fun s σ' hp' _=>(∃ a,σ' 14 = .v (.c a) ∧ so [145] uR0 true hp' a s.1) ∧ σ' 16 = V (.int .i64 s.2.1) ∧ (∃ c,hp'.get 15 = some (.cells g268 (c.map I)) ∧ uR0.rp true c s.2.2) ∧ Keep [14] 16 145 σ277 σ' ∧ Fr [15,17,145] hp273 hp') (X:=fun e ex σ' hp' _=>ex = .exit 4 ∧ (∃ a,σ' 14 = .v (.c a) ∧ so [145] uR0 true hp' a e) ∧ Keep [14] 16 145 σ277 σ' ∧ Fr [15,17,145] hp273 hp') ⟨⟨_,f282,(so_nil _ _ _ _)⟩,f284,⟨[IV.str [],IV.str [],IV.int .i64 ((0 : Int)),IV.int .i64 ((0 : Int)),IV.int .i64 ((0 : Int)),IV.str []],k274,(uR0.mk)⟩,Keep.refl _ _ _ _,Fr.refl _ _⟩ ?_) ?_
    ·clear h
     rintro ⟨w287,w288,w289⟩ o σ297 hp298 _ h ⟨⟨a290,f291,o292⟩,f293,⟨c294,k295,h296⟩,k299,r300⟩;have h : uF27b x0 x1 y261 w287 w288 w289 = some o:=h; unfold uF27b at h;have f301:=(k299 0 rfl).trans f279;have f302:=(k299 1 rfl).trans f280;have f303:=(k299 9 rfl).trans f281;have f304:=(k299 15 rfl).trans f283;have o305:=o276.fr r300 rfl;obtain ⟨_,rfl⟩:=uR0.inv h296;refine wpE_seq (e_reg (k_mov f293 (k_bin rfl rfl rfl (k_mov f303 (k_len rfl o305.any (k_bin rfl rfl rfl (k_nil (wpE_cond (p:=(decide (((IntKind.wrap .i64 (w288 + ((1 : Int))))) < ((List.length y261 : Int))))) rfl (fun g306=>?_) (fun g306=>?_)))))))))
     ·have h:=ctrue h g306
      refine wpE_skip (wpE_seq (wpE_block (e_reg (k_mov f301 (k_mov f302 (k_mov f303 (k_mov f293 ?_)))))));obtain ⟨y307,e308,h⟩:=obind h;refine k_iadrL rfl o305.any rfl e308 rfl fun p309 c310 q311 h312=>?_;obtain rfl : c310 = [IV.int .i64 y307]:=h312;refine k_loadL rfl q311 rfl ?_;obtain ⟨y313,e314,h⟩:=obind h;refine k_call (.cons rfl rfl (.cons rfl rfl (.cons rfl rfl .nil))) (s70 (sv_retag hx0) e314) (.inl rfl) ?_;rintro _ ⟨c316,rfl,q317⟩;obtain ⟨_,rfl⟩:=uR0.inv q317;refine k_movT rfl (k_ext rfl rfl (k_ext rfl rfl (k_alloc fun g318 hp319 k320 r321=>?_)));have r322 : Fr [15,17,145] hp273 hp319:=Fr.ext r300 r321 rfl;have o323:=o305.fr r321 rfl;have o324:=o292.fr r321 rfl;have k325:=(r321 15 (by decide)).trans k295;refine k_storeB rfl rfl k320 rfl fun hp326 k327 r328=>?_;have r329 : Fr [15,17,145] hp273 hp326:=Fr.ext r322 r328 rfl;have o330:=o323.fr r328 rfl;have o331:=o324.fr r328 rfl;have k332:=(r328 15 (by decide)).trans k325;refine k_mov rfl (k_nil (wpE_seq (e_reg (k_mov rfl (k_not rfl (k_nil (wpE_cond (p:=(!y313.2)) rfl (fun g333=>?_) (fun g333=>?_))))))))
      ·have h:=ctrue h g333
       refine e_reg (k_build .nil rfl (k_storeB f304 rfl k332 rfl fun hp334 k335 r336=>?_));have r337 : Fr [15,17,145] hp273 hp334:=Fr.ext r329 r336 rfl;have o339:=o331.fr r336 rfl;refine k_nil (wpE_exit (e_last (k_mov f293 (k_bin rfl rfl rfl (k_mov rfl ?_)))));obtain ⟨u340,e341,h⟩:=bnd_e h;refine k_nil ?_;cases h
       exact ⟨rfl,⟨_,f291,((o339).wide rfl)⟩,(cgI e341),⟨[IV.str [],IV.str [],IV.int .i64 ((0 : Int)),IV.int .i64 ((0 : Int)),IV.int .i64 ((0 : Int)),IV.str []],k335,(uR0.mk)⟩,(by repeat (first | exact k299 | refine Keep.upd ?_ rfl _)),r337⟩
      ·have h:=cfalse h g333
       refine wpE_skip (wpE_seq (e_reg (k_mov f291 (k_len rfl o331.any (k_bin rfl rfl rfl (k_mov rfl ?_))))));obtain ⟨u342,e343,h⟩:=bnd_e h;refine k_nil (e_reg (k_mov (cgI e343) (k_bin rfl rfl rfl (k_mov rfl (gL fun σ344 e345=>?_)))));have k346 : Keep [14] 16 145 σ277 σ344:=by rw [e345]; repeat (first | exact k299 | refine Keep.upd ?_ rfl _)
       have f349:=(congrFun e345 9).trans f303;have f350:=(congrFun e345 14).trans f291;have f351:=(congrFun e345 15).trans f304;have f352:=(congrFun e345 16).trans f293;have f353 : σ344 17 = .v (.c (.r (.ptr 17 g318 0))):=(congrFun e345 17).trans rfl;have f354 : σ344 19 = V (.int .i64 u342):=(congrFun e345 19).trans (cgI e343);have f355 : σ344 116 = V (.bool ((decide (u342 ≥ ((0 : Int)))))):=(congrFun e345 116).trans rfl;refine k_mid (fun σ' hp' _=>hp326 = hp' ∧ σ' 120 = V (.bool (((decide (u342 ≥ ((0 : Int)))) && (y313.1.Person == w289.Person && (y313.1.Device == w289.Device && (y313.1.State == w289.State && (y313.1.At == w289.At && (y313.1.Until == w289.Until && (y313.1.Note == w289.Note && true))))))))) ∧ Keep [] 117 120 σ344 σ') ?_ ?_
       ·rcases bt ((decide (u342 ≥ ((0 : Int))))) with g356 | g356
        ·refine k_yes (f355.trans (cgB g356)) ?_
         refine k_loadB f353 k327 rfl (k_yes (f355.trans (cgB g356)) (k_loadB f351 k332 rfl (k_yes (f355.trans (cgB g356)) (k_eqv (b:=(y313.1.Person == w289.Person && (y313.1.Device == w289.Device && (y313.1.State == w289.State && (y313.1.At == w289.At && (y313.1.Until == w289.Until && (y313.1.Note == w289.Note && true))))))) rfl rfl rfl (k_pickT (f355.trans (cgB g356)) rfl ?_)))));exact ⟨rfl,cgB (by rw [g356]; rfl),(by repeat (first | exact (Keep.refl _ _ _ _) | refine Keep.upd ?_ rfl _))⟩
        ·refine k_no (f355.trans (cgB g356)) rfl ?_
         refine k_no (f355.trans (cgB g356)) rfl (k_no (f355.trans (cgB g356)) rfl (k_pickF (f355.trans (cgB g356)) rfl ?_));exact ⟨rfl,cgB (by rw [g356]; rfl),(by repeat (first | exact (Keep.refl _ _ _ _) | refine Keep.upd ?_ rfl _))⟩
       rintro σ357 _ _ ⟨rfl,f359,k358⟩;have f362:=(k358 9 rfl).trans f349;have f363:=(k358 14 rfl).trans f350;have f364:=(k358 15 rfl).trans f351;have f365:=(k358 16 rfl).trans f352;have f366:=(k358 17 rfl).trans f353;have f367:=(k358 19 rfl).trans f354;have k368 : Keep [14] 16 145 σ277 σ357:=Keep.trans k346 (Keep.sub k358 rfl);refine k_nil (wpE_cond (p:=((decide (u342 ≥ ((0 : Int)))) && (y313.1.Person == w289.Person && (y313.1.Device == w289.Device && (y313.1.State == w289.State && (y313.1.At == w289.At && (y313.1.Until == w289.Until && (y313.1.Note == w289.Note && true)))))))) f359 (fun g369=>?_) (fun g369=>?_))
       ·have h:=ctrue h g369
        refine e_reg (k_mov f363 (k_mov f367 (k_mov f362 (k_mov f365 (k_bin rfl rfl rfl ?_)))));obtain ⟨y370,e371,h⟩:=obind h;refine k_iadrL rfl o330.any rfl e371 rfl fun p372 c373 q374 h375=>?_;obtain rfl : c373 = [IV.int .i64 y370]:=h375;refine k_loadL rfl q374 rfl ?_;obtain ⟨y376,e377,h⟩:=obind h;refine k_iadrO (sz:=6) rfl o331 rfl (idx_in e377) rfl fun p378 q379=>?_;refine k_fadrO (o:=4) rfl q379 fun p380 q381=>?_;refine k_storeO (ws:=[IV.int .i64 y370]) (o:=4) (sz:=6) (u':=(⟨y376.Person,y376.Device,y376.State,y376.At,y370,y376.Note⟩ : uT0)) rfl q381 rfl rfl rfl e377 (by decide) rfl (fun c hc=>by obtain ⟨_,rfl⟩:=uR0.inv hc; exact (uR0.mk)) fun hp382 k383 r384=>?_;obtain ⟨l385,e386,h⟩:=bnd_e h;have o387:=e386 ▸ k383;have r388 : Fr [15,17,145] hp273 hp382:=Fr.ext r329 r384 rfl;have k390:=(r384 15 (by decide)).trans k332;refine k_nil (wpE_exit (e_last (k_mov f365 (k_bin rfl rfl rfl (k_mov rfl ?_)))));obtain ⟨u394,e395,h⟩:=bnd_e h;refine k_nil ?_;cases h
        exact ⟨rfl,⟨_,f363,((o387).wide rfl)⟩,(cgI e395),⟨[IV.str w289.Person,IV.str w289.Device,IV.int .i64 w289.State,IV.int .i64 w289.At,IV.int .i64 w289.Until,IV.str w289.Note],k390,(uR0.mk)⟩,(by repeat (first | exact k368 | refine Keep.upd ?_ rfl _)),r388⟩
       ·have h:=cfalse h g369
        refine wpE_skip (e_reg (k_loadB f366 k327 rfl (k_storeB f364 rfl k332 rfl fun hp396 k397 r398=>?_)));have r399 : Fr [15,17,145] hp273 hp396:=Fr.ext r329 r398 rfl;have o400:=o330.fr r398 rfl;have o401:=o331.fr r398 rfl;have k402:=(r398 17 (by decide)).trans k327;refine k_nil (e_regT (by kernel_rfl) (by kernel_rfl) (t_n (k_mov f362 (k_nil (t_n (k_mov f365 (k_nil ?_)))))));obtain ⟨y403,e404,h⟩:=obind h;refine t_r (S:=[47]) (dep_iadr rfl (sa.lies (hp:=hp396) o400.any)) (k_iadrL rfl o400.any rfl e404 rfl fun p405 c406 q407 h408=>?_);obtain rfl : c406 = [IV.int .i64 y403]:=h408;refine k_nil (t_r (S:=[47]) (dep_load rfl (ep.lies q407)) (k_loadL rfl q407 rfl (k_nil (t_n (k_mov f362 (k_nil (t_n (k_mov f365 (k_nil ?_)))))))));refine t_n (k_bin rfl rfl rfl (k_nil ?_));obtain ⟨y409,e410,h⟩:=obind h;refine t_r (S:=[47]) (dep_iadr rfl (sa.lies (hp:=hp396) o400.any)) (k_iadrL rfl o400.any rfl e410 rfl fun p411 c412 q413 h414=>?_);obtain rfl : c412 = [IV.int .i64 y409]:=h414;refine k_nil (t_r (S:=[47]) (dep_load rfl (ep.lies q413)) (k_loadL rfl q413 rfl (k_nil (t_r (S:=[17]) (dep_fadr f366 (List.mem_singleton.2 rfl)) (k_fadrB (o:=3) f366 k402 (k_nil (t_t (k_storeB rfl rfl k402 rfl fun hp415 k416 r417=>?_))))))));have r418 : Fr [15,17,145] hp273 hp415:=Fr.ext r399 r417 rfl;have o420:=o401.fr r417 rfl;have k421:=(r417 15 (by decide)).trans k397;refine k_nil ⟨r417,?_⟩
        refine t_r (S:=[17]) (dep_fadr f366 (List.mem_singleton.2 rfl)) (k_fadrB (o:=4) f366 k416 (k_nil (t_t (k_storeB rfl rfl k416 rfl fun hp422 k423 r424=>?_))));have r425 : Fr [15,17,145] hp273 hp422:=Fr.ext r418 r424 rfl;have o427:=o420.fr r424 rfl;have k428:=(r424 15 (by decide)).trans k421;refine k_nil ⟨r424,?_⟩;refine t_nil (e_last (k_mov f363 (k_loadB f366 k423 rfl (k_bslL (len:=1) (vs:=[IV.str y313.1.Person,IV.str y313.1.Device,IV.int .i64 y313.1.State,IV.int .i64 y403,IV.int .i64 y409,IV.str y313.1.Note]) (.cons rfl .nil) (by decide) rfl ?_))));have o429 : sv uR0 true (.lit 0 [IV.str y313.1.Person,IV.str y313.1.Device,IV.int .i64 y313.1.State,IV.int .i64 y403,IV.int .i64 y409,IV.str y313.1.Note] 1) ([(⟨y313.1.Person,y313.1.Device,y313.1.State,y403,y409,y313.1.Note⟩ : uT0)] : List uT0):=sv_lit true (⟨[IV.str y313.1.Person,IV.str y313.1.Device,IV.int .i64 y313.1.State,IV.int .i64 y403,IV.int .i64 y409,IV.str y313.1.Note],_,rfl,(uR0.mk),rfl⟩) rfl;obtain ⟨y435,e436,h⟩:=obind h;refine k_app (E:=uR0) (f:=true) rfl o427 rfl (sv.any [] _ o429) e436 rfl fun a430 hp431 ct432 o433 r434=>?_;have r437 : Fr [15,17,145] hp273 hp431:=Fr.ext r425 r434 rfl;have k439:=(r434 15 (by decide)).trans k428;refine k_mov rfl (k_nil (e_last (k_mov f365 (k_bin rfl rfl rfl (k_mov rfl ?_)))));obtain ⟨u440,e441,h⟩:=bnd_e h;refine k_nil ?_;cases h
        exact ⟨rfl,⟨_,rfl,((o433).wide rfl)⟩,(cgI e441),⟨[IV.str y313.1.Person,IV.str y313.1.Device,IV.int .i64 y313.1.State,IV.int .i64 y313.1.At,IV.int .i64 y313.1.Until,IV.str y313.1.Note],k439,(uR0.mk)⟩,(by repeat (first | exact k368 | refine Keep.upd ?_ rfl _)),r437⟩
     ·have h:=cfalse h g306
      refine wpE_exit ?_;cases h
      exact ⟨by decide,rfl,⟨_,f291,((o292).wide rfl)⟩,(by repeat (first | exact k299 | refine Keep.upd ?_ rfl _)),r300⟩
    rintro _ σ443 hp444 _ ⟨rfl,⟨a447,f448,o449⟩,k445,r446⟩;refine e_reg (k_mov f448 (k_mov rfl (k_mov rfl (k_nil (wpE_ret ?_)))));obtain ⟨v450,q451,q452⟩:=(o449.any).back lent hl [] rfl;cases h
    exact e_ret (ct:=0) (.tmp rfl (back_c q451) (.tmp rfl (back_sc rfl) .nil)) ⟨v450,rfl,q452⟩
end Go.Proofs.YtnpbglnfnhejiaaGreatDoor

/-
 The small code of functions comes to the Lean functions. Printed by a program of mine.
-/
namespace Go.Proofs.YtnpbglnfnhejiaaGreatDoor
open Go Go.Abs
set_option maxRecDepth 100000
set_option maxHeartbeats 8000000
variable {mx : Int}
theorem s28 {x0 : List uT0} {vx0 : IV} {x1 : List UInt8} {x2 : Int} {r : uT0 × Bool × Int} (hx0 : sv uR0 false vx0 x0) (h : uF28 x0 x1 x2 = some r) : pc (L mx) 28 [.c (I vx0),.c (I (.str x1)),.c (I (.int .i64 x2))] true (P28 r):=by
 refine fn_pure (fn:=ir28) rfl (nlt rfl) fun lent hl=>?_;unfold uF28 at h;refine e_reg (k_alloc fun g1 hp2 k3 r4=>?_);refine k_mov rfl (k_mov rfl (k_nil (wpE_seq (e_reg (k_mov rfl ?_)))));obtain ⟨y5,e6,h⟩:=obind h;refine k_call (.cons rfl rfl .nil) (s67 (sv_retag hx0) e6) (.inl rfl) ?_;rintro _ rfl;refine k_mov rfl (k_nil (e_reg (k_mov rfl (k_bin rfl rfl rfl (k_nil (wpE_cond (p:=(y5 != ((0 : Int)))) rfl (fun g8=>?_) (fun g8=>?_)))))))
 ·have h:=ctrue h g8
  refine e_reg (k_build .nil rfl (k_mov rfl (k_storeB rfl rfl k3 rfl fun hp9 k10 r11=>?_)));refine k_mov rfl (k_mov rfl (k_nil (wpE_ret ?_)));cases h
  exact e_ret (ct:=0) (.cell rfl k10 rfl (BackP.agg (.cons (backC_inl fun _=>rfl) (.cons (backC_inl fun _=>rfl) (.cons (backC_inl fun _=>rfl) (.cons (backC_inl fun _=>rfl) (.cons (backC_inl fun _=>rfl) (.cons (backC_inl fun _=>rfl) .nil))))))) (.tmp rfl (back_sc rfl) (.tmp rfl (back_sc rfl) .nil))) ⟨[IV.str [],IV.str [],IV.int .i64 ((0 : Int)),IV.int .i64 ((0 : Int)),IV.int .i64 ((0 : Int)),IV.str []],rfl,(uR0.mk)⟩
 ·have h:=cfalse h g8
  refine wpE_skip (wpE_seq (e_reg (k_mov rfl ?_)));obtain ⟨y12,e13,h⟩:=obind h;refine k_call (.cons rfl rfl .nil) (s57  e13) (.inl rfl) ?_;rintro _ rfl;refine k_not rfl (k_nil (wpE_cond (p:=(!y12)) rfl (fun g15=>?_) (fun g15=>?_)))
  ·have h:=ctrue h g15
   refine e_reg (k_build .nil rfl (k_storeB rfl rfl k3 rfl fun hp16 k17 r18=>?_));refine k_mov rfl (k_mov rfl (k_nil (wpE_ret ?_)));cases h
   exact e_ret (ct:=0) (.cell rfl k17 rfl (BackP.agg (.cons (backC_inl fun _=>rfl) (.cons (backC_inl fun _=>rfl) (.cons (backC_inl fun _=>rfl) (.cons (backC_inl fun _=>rfl) (.cons (backC_inl fun _=>rfl) (.cons (backC_inl fun _=>rfl) .nil))))))) (.tmp rfl (back_sc rfl) (.tmp rfl (back_sc rfl) .nil))) ⟨[IV.str [],IV.str [],IV.int .i64 ((0 : Int)),IV.int .i64 ((0 : Int)),IV.int .i64 ((0 : Int)),IV.str []],rfl,(uR0.mk)⟩
  ·have h:=cfalse h g15
   refine wpE_skip (wpE_seq (e_reg (k_mov rfl ?_)));obtain ⟨y19,e20,h⟩:=obind h;refine k_call (.cons rfl rfl .nil) (s59  e20) (.inl rfl) ?_;rintro _ rfl;refine k_not rfl (k_nil (wpE_cond (p:=(!y19)) rfl (fun g22=>?_) (fun g22=>?_)))
   ·have h:=ctrue h g22
    refine e_reg (k_build .nil rfl (k_storeB rfl rfl k3 rfl fun hp23 k24 r25=>?_));refine k_mov rfl (k_mov rfl (k_nil (wpE_ret ?_)));cases h
    exact e_ret (ct:=0) (.cell rfl k24 rfl (BackP.agg (.cons (backC_inl fun _=>rfl) (.cons (backC_inl fun _=>rfl) (.cons (backC_inl fun _=>rfl) (.cons (backC_inl fun _=>rfl) (.cons (backC_inl fun _=>rfl) (.cons (backC_inl fun _=>rfl) .nil))))))) (.tmp rfl (back_sc rfl) (.tmp rfl (back_sc rfl) .nil))) ⟨[IV.str [],IV.str [],IV.int .i64 ((0 : Int)),IV.int .i64 ((0 : Int)),IV.int .i64 ((0 : Int)),IV.str []],rfl,(uR0.mk)⟩
   ·have h:=cfalse h g22
    refine wpE_skip (e_reg (k_mov rfl (k_mov rfl (k_mov rfl ?_))));obtain ⟨y26,e27,h⟩:=obind h;refine k_call (.cons rfl rfl (.cons rfl rfl (.cons rfl rfl .nil))) (s70 (sv_retag hx0) e27) (.inl rfl) ?_;rintro _ ⟨c29,rfl,q30⟩;obtain ⟨_,rfl⟩:=uR0.inv q30;refine k_movT rfl (k_ext rfl rfl (k_ext rfl rfl (k_alloc fun g31 hp32 k33 r34=>?_)));have k35:=(r34 6 (by decide)).trans k3;refine k_storeB rfl rfl k33 rfl fun hp36 k37 r38=>?_;have k39:=(r38 6 (by decide)).trans k35;refine k_mov rfl (k_nil (e_reg (k_loadB rfl k37 rfl (k_mov rfl (k_storeB rfl rfl k39 rfl fun hp40 k41 r42=>?_)))));refine k_mov rfl (k_mov rfl (k_nil (wpE_ret ?_)));cases h
    exact e_ret (ct:=0) (.cell rfl k41 rfl (BackP.agg (.cons (backC_inl fun _=>rfl) (.cons (backC_inl fun _=>rfl) (.cons (backC_inl fun _=>rfl) (.cons (backC_inl fun _=>rfl) (.cons (backC_inl fun _=>rfl) (.cons (backC_inl fun _=>rfl) .nil))))))) (.tmp rfl (back_sc rfl) (.tmp rfl (back_sc rfl) .nil))) ⟨[IV.str y26.1.Person,IV.str y26.1.Device,IV.int .i64 y26.1.State,IV.int .i64 y26.1.At,IV.int .i64 y26.1.Until,IV.str y26.1.Note],rfl,(uR0.mk)⟩
theorem s29 {x0 : List uT0} {vx0 : IV} {x1 : (uT0 → Option Bool)} {fx1 : Nat} {kx1 : List IV} {r : Int} (hx0 : sv uR0 false vx0 x0) (hx1 : CK65 (L mx) fx1 kx1 x1) (h : uF29 x0 x1 = some r) : pc (L mx) 29 [.c (I vx0),.c (I (.clo fx1 kx1))] true (P29 r):=by
 refine fn_pure (fn:=ir29) rfl (nlt rfl) fun lent hl=>?_;unfold uF29 at h;refine e_reg (k_mov rfl (k_nil (wpE_seq (e_reg (k_mov rfl (k_len rfl (sv.any [] _ hx0) (k_mov rfl (k_nil (wpE_block ?_)))))))));refine gE fun σ1 e2=>?_;have f3 : σ1 0 = .v (.c ((I vx0))):=(congrFun e2 0).trans rfl;have f4 : σ1 1 = .v (.c (I (.clo fx1 kx1))):=(congrFun e2 1).trans rfl;have f5 : σ1 7 = V (.int .i64 ((List.length x0 : Int))):=(congrFun e2 7).trans rfl;have f6 : σ1 8 = V (.int .i64 ((0 : Int))):=(congrFun e2 8).trans rfl;obtain ⟨e7,h8,h⟩:=lret_e h;refine wpE_mono (e_loop h8 (I:=fun s σ' hp' _=>σ' 8 = V (.int .i64 s) ∧ Keep [4,5] 8 18 σ1 σ' ∧ [] = hp') (X:=fun e ex σ' hp' _=>match e with | .inl e=>ex = .exit 0 ∧ Keep [4,5] 8 18 σ1 σ' ∧ [] = hp' | .inr r=>ex = .ret ∧ ∀ ct,atEnd 19 [Res.tmp 4] (fin lent (P29 r)) .ret σ' hp' ct) ⟨f6,Keep.refl _ _ _ _,rfl⟩ ?_) ?_
 ·clear h
  rintro w9 o σ11 _ _ h ⟨f10,k13,rfl⟩;have h : uF29a x0 x1 w9 = some o:=h; unfold uF29a at h;have f15:=(k13 0 rfl).trans f3;have f16:=(k13 1 rfl).trans f4;have f17:=(k13 7 rfl).trans f5;refine e_reg (k_bin f10 f17 rfl (k_nil (wpE_seq (wpE_cond (p:=(decide (w9 < ((List.length x0 : Int))))) rfl (fun g18=>?_) (fun g18=>?_)))))
  ·have h:=ctrue h g18
   refine wpE_skip (wpE_seq (wpE_block (e_reg (k_mov f10 (k_mov rfl (k_nil (e_reg (k_mov f16 (k_mov f15 ?_)))))))));refine k_mov rfl ?_;obtain ⟨y19,e20,h⟩:=obind h;refine k_iadrL rfl (sv.any [] _ hx0) rfl e20 rfl fun p21 c22 q23 h24=>?_;obtain ⟨_,rfl⟩:=uR0.inv h24;refine k_loadL rfl q23 rfl ?_;obtain ⟨y25,e26,h⟩:=obind h;refine k_callv rfl (.cons rfl rfl .nil) (hx1 _ _ (uR0.mk) _ e26) (.inl rfl) ?_;rintro _ rfl;refine k_nil (wpE_cond (p:=y25) rfl (fun g27=>?_) (fun g27=>?_))
   ·have h:=ctrue h g27
    refine e_reg (k_mov rfl (k_mov rfl (k_nil (wpE_ret ?_))));cases h
    exact ⟨by decide,rfl,fun _=>e_ret (ct:=0) (.tmp rfl (back_sc rfl) .nil) rfl⟩
   ·have h:=cfalse h g27
    refine wpE_skip (e_last (k_bin f10 rfl rfl (k_mov rfl (k_nil ?_))));cases h
    exact ⟨rfl,rfl,(by repeat (first | exact k13 | refine Keep.upd ?_ rfl _)),rfl⟩
  ·have h:=cfalse h g18
   refine wpE_exit ?_;cases h
   exact ⟨by decide,rfl,(by repeat (first | exact k13 | refine Keep.upd ?_ rfl _)),rfl⟩
 rcases e7 with _ | r1;rotate_left
 ·rintro _ _ _ _ ⟨rfl,hX⟩
  cases h
  exact hX 0
 rintro _ σ28 _ _ ⟨rfl,k30,rfl⟩;refine e_reg (k_mov rfl (k_nil (wpE_ret ?_)));cases h
 exact e_ret (ct:=0) (.tmp rfl (back_sc rfl) .nil) rfl
theorem s30 {x0 : uT0} {cx0 : List IV} {x1 : Int} {r : Bool} (hx0 : uR0.rp false cx0 x0) (h : uF30 x0 x1 = some r) : pc (L mx) 30 [.agg (cx0.map I),.c (I (.lp 1 [IV.int .i64 x1]))] true (P30 r):=by
 refine fn_pure (fn:=ir30) rfl (nlt rfl) fun lent hl=>?_;unfold uF30 at h;obtain ⟨_,rfl⟩:=uR0.inv hx0;refine e_reg (k_box rfl rfl fun g1 hp2 k3 r4=>?_);refine k_mov rfl (k_nil (e_reg (k_fadrB (o:=3) rfl k3 (k_loadB rfl k3 rfl (k_loadL rfl (ep_lp 1 [IV.int .i64 x1]) rfl (k_bin rfl rfl rfl (k_mov rfl (gL fun σ5 e6=>?_))))))));have f7:=(congrFun e6 1).trans rfl;have f8 : σ5 2 = .v (.c (.r (.ptr 2 g1 0))):=(congrFun e6 2).trans rfl;have f9 : σ5 8 = V (.bool ((decide (x0.At ≤ x1)))):=(congrFun e6 8).trans rfl;refine k_mid (fun σ' hp' _=>hp2 = hp' ∧ σ' 13 = V (.bool (((decide (x0.At ≤ x1)) && (decide (x1 < x0.Until))))) ∧ Keep [] 9 13 σ5 σ') ?_ ?_
 ·rcases bt ((decide (x0.At ≤ x1))) with g10 | g10
  ·refine k_yes (f9.trans (cgB g10)) ?_
   refine k_loadL f7 (ep_lp 1 [IV.int .i64 x1]) rfl (k_yes (f9.trans (cgB g10)) (k_fadrB (o:=4) f8 k3 (k_yes (f9.trans (cgB g10)) (k_loadB rfl k3 rfl (k_yes (f9.trans (cgB g10)) (k_bin rfl rfl rfl (k_pickT (f9.trans (cgB g10)) rfl ?_)))))));exact ⟨rfl,cgB (by rw [g10]; rfl),(by repeat (first | exact (Keep.refl _ _ _ _) | refine Keep.upd ?_ rfl _))⟩
  ·refine k_no (f9.trans (cgB g10)) rfl ?_
   refine k_no (f9.trans (cgB g10)) rfl (k_no (f9.trans (cgB g10)) rfl (k_no (f9.trans (cgB g10)) rfl (k_pickF (f9.trans (cgB g10)) rfl ?_)));exact ⟨rfl,cgB (by rw [g10]; rfl),(by repeat (first | exact (Keep.refl _ _ _ _) | refine Keep.upd ?_ rfl _))⟩
 rintro σ11 _ _ ⟨rfl,f13,k12⟩;refine k_mov f13 ?_;obtain ⟨u14,e15,h⟩:=bnd_e h;refine k_nil (wpE_ret ?_);cases h
 exact e_ret (ct:=0) (.tmp (cgB e15) (back_sc rfl) .nil) rfl
theorem ready_run : isTrue1 (run (tabs mx) fns (xRun kx) 40 20 31 [] []) = true:=by kernel_rfl
theorem s31 {r : Bool} (h : uF31 = some r) : pc (L mx) 31 [] true (P31 r):=by
 cases h
 exact pc_true ready_run
end Go.Proofs.YtnpbglnfnhejiaaGreatDoor
