/-
 The small code of functions comes to the Lean functions. Printed by a program of mine.
-/
import Derived.Test.YtoclmbbfdokbhaaGreatDoorHM3Sa
namespace Go.Proofs.YtoclmbbfdokbhaaGreatDoor
open Go Go.Abs
set_option maxRecDepth 100000
set_option maxHeartbeats 8000000
theorem s70 {x0 : Int} {x1 : Int} {x2 : Int} {r : Bool}  (h : uF70 x0 x1 x2 = some r) : pc L 70 [.c (I (.int .i64 x0)), .c (I (.int .i64 x1)), .c (I (.int .i64 x2))] true (P70 r) := by
 refine fn_pure (fn := ir70) rfl (nlt rfl) fun lent hl => ?_;unfold uF70 at h;refine e_reg (k_mov rfl (k_nil (e_reg (k_mov rfl (k_mov rfl (k_bin rfl rfl rfl (k_mov rfl (gL fun σ1 e2 => ?_))))))));have f3 : σ1 0 = V (.int .i64 x0) := (congrFun e2 0).trans rfl;have f4 : σ1 2 = V (.int .i64 x2) := (congrFun e2 2).trans rfl;have f5 : σ1 10 = V (.bool ((decide (x0 ≥ x1)))) := (congrFun e2 10).trans rfl;refine k_mid (fun σ' hp' _ => [] = hp' ∧ σ' 14 = V (.bool (((decide (x0 ≥ x1)) && (decide (x0 ≤ x2))))) ∧ Keep [] 11 14 σ1 σ') ?_ ?_
 ·rcases bt ((decide (x0 ≥ x1))) with g6 | g6
  ·refine k_yes (f5.trans (cgB g6)) ?_
   refine k_mov f3 (k_yes (f5.trans (cgB g6)) (k_mov f4 (k_yes (f5.trans (cgB g6)) (k_bin rfl rfl rfl (k_pickT (f5.trans (cgB g6)) rfl ?_)))));exact ⟨rfl, cgB (by rw [g6]; rfl), (by repeat (first | exact (Keep.refl _ _ _ _) | refine Keep.upd ?_ rfl _))⟩
  ·refine k_no (f5.trans (cgB g6)) rfl ?_
   refine k_no (f5.trans (cgB g6)) rfl (k_no (f5.trans (cgB g6)) rfl (k_pickF (f5.trans (cgB g6)) rfl ?_));exact ⟨rfl, cgB (by rw [g6]; rfl), (by repeat (first | exact (Keep.refl _ _ _ _) | refine Keep.upd ?_ rfl _))⟩
 rintro σ7 _ _ ⟨rfl, f9, k8⟩;refine k_mov f9 ?_;obtain ⟨u10, e11, h⟩ := bnd_e h;refine k_nil (wpE_ret ?_);cases h
 exact e_ret (ct := 0) (.tmp (cgB e11) (back_sc rfl) .nil) rfl
theorem s129 {x0 : uT1} {cx0 : List IV} {x1 : uT1} {cx1 : List IV} {r : Bool} (hx0 : uR1.rp false cx0 x0) (hx1 : uR1.rp false cx1 x1) (h : uF129 x0 x1 = some r) : pc L 129 [.agg (cx0.map I), .c (I (.lp 1 cx1))] true (P129 r) := by
 refine fn_pure (fn := ir129) rfl (nlt rfl) fun lent hl => ?_;unfold uF129 at h;obtain ⟨_, rfl⟩ := uR1.inv hx0;obtain ⟨_, rfl⟩ := uR1.inv hx1;refine e_reg (k_box rfl rfl fun g1 hp2 k3 r4 => ?_);refine k_mov rfl (k_nil (e_reg (k_fadrB (o := 0) rfl k3 (k_loadB rfl k3 rfl (k_fadrL (o := 0) rfl (ep_lp 1 [IV.int .i64 x1.Type_, IV.int .i64 x1.Rate, IV.str x1.Name]) (nlt rfl) fun p5 q6 => ?_)))));refine k_loadL rfl q6 rfl (k_bin rfl rfl rfl (k_mov rfl ?_));obtain ⟨u7, e8, h⟩ := bnd_e h;refine k_nil (wpE_ret ?_);cases h
 exact e_ret (ct := 0) (.tmp (cgB e8) (back_sc rfl) .nil) rfl
theorem s160 {x0 x1 : List UInt8} {r : List UInt8} (h : uF160 x0 x1 = some r) : pc L 160 [.c (I (.str x0)), .c (I (.str x1))] true (P160 r) := by
 unfold uF160 at h;split at h
 ·rename_i hk
  cases h
  intro lent _;refine ⟨[.c (I (.str _))], ?_, rfl⟩;unfold pureCall;rw [show L 160 _ [] = some ([.c (I (.str (Lib.trimS x0 x1)))], []) from lim_x rfl _ _ (by show (if trimOk x0 x1 then _ else _) = _; rw [if_pos hk])];cases lent <;> rfl
 ·simp at h
theorem s130 {x0 : List UInt8} {r : Bool}  (h : uF130 x0 = some r) : pc L 130 [.c (I (.str x0))] true (P130 r) := by
 refine fn_pure (fn := ir130) rfl (nlt rfl) fun lent hl => ?_;unfold uF130 at h;refine e_reg (k_mov rfl (k_nil (e_reg (k_mov rfl (k_lenS rfl (k_bin rfl rfl rfl (k_mov rfl (gL fun σ1 e2 => ?_))))))));have f3 : σ1 0 = V (.str x0) := (congrFun e2 0).trans rfl;have f4 : σ1 6 = V (.bool ((decide (((List.length x0 : Int)) ≥ ((1 : Int)))))) := (congrFun e2 6).trans rfl;refine k_mid (fun σ' hp' _ => [] = hp' ∧ σ' 10 = V (.bool (((decide (((List.length x0 : Int)) ≥ ((1 : Int)))) && (decide (((List.length x0 : Int)) ≤ ((40 : Int))))))) ∧ Keep [] 7 10 σ1 σ') ?_ ?_
 ·rcases bt ((decide (((List.length x0 : Int)) ≥ ((1 : Int))))) with g5 | g5
  ·refine k_yes (f4.trans (cgB g5)) ?_
   refine k_mov f3 (k_yes (f4.trans (cgB g5)) (k_lenS rfl (k_yes (f4.trans (cgB g5)) (k_bin rfl rfl rfl (k_pickT (f4.trans (cgB g5)) rfl ?_)))));exact ⟨rfl, cgB (by rw [g5]; rfl), (by repeat (first | exact (Keep.refl _ _ _ _) | refine Keep.upd ?_ rfl _))⟩
  ·refine k_no (f4.trans (cgB g5)) rfl ?_
   refine k_no (f4.trans (cgB g5)) rfl (k_no (f4.trans (cgB g5)) rfl (k_pickF (f4.trans (cgB g5)) rfl ?_));exact ⟨rfl, cgB (by rw [g5]; rfl), (by repeat (first | exact (Keep.refl _ _ _ _) | refine Keep.upd ?_ rfl _))⟩
 rintro σ6 _ _ ⟨rfl, f8, k7⟩;have f9 := (k7 0 rfl).trans f3;refine k_mov f8 (gL fun σ10 e11 => ?_);have f12 := (congrFun e11 0).trans f9;have f13 : σ10 11 = V (.bool (((decide (((List.length x0 : Int)) ≥ ((1 : Int)))) && (decide (((List.length x0 : Int)) ≤ ((40 : Int))))))) := (congrFun e11 11).trans rfl;obtain ⟨y17, e18, h⟩ := obind h;refine k_mid (fun σ' hp' _ => [] = hp' ∧ σ' 15 = V (.bool y17) ∧ Keep [] 12 15 σ10 σ') ?_ ?_
 ·rcases bt (((decide (((List.length x0 : Int)) ≥ ((1 : Int)))) && (decide (((List.length x0 : Int)) ≤ ((40 : Int)))))) with g14 | g14
  ·have h := ctrue e18 g14
   refine k_yes (f13.trans (cgB g14)) (k_mov f12 (k_yes (f13.trans (cgB g14)) ?_));obtain ⟨y15, e16, h⟩ := obind h;refine k_idxS rfl rfl e16 (k_yes (f13.trans (cgB g14)) (k_bin rfl rfl rfl (k_pickT (f13.trans (cgB g14)) rfl ?_)));exact ⟨rfl, cgB (Option.some.inj h), (by repeat (first | exact (Keep.refl _ _ _ _) | refine Keep.upd ?_ rfl _))⟩
  ·have h := cfalse e18 g14
   refine k_no (f13.trans (cgB g14)) rfl (k_no (f13.trans (cgB g14)) rfl (k_no (f13.trans (cgB g14)) rfl (k_pickF (f13.trans (cgB g14)) rfl ?_)));exact ⟨rfl, cgB (Option.some.inj h), (by repeat (first | exact (Keep.refl _ _ _ _) | refine Keep.upd ?_ rfl _))⟩
 rintro σ19 _ _ ⟨rfl, f21, k20⟩;have f22 := (k20 0 rfl).trans f12;refine k_mov f21 (gL fun σ23 e24 => ?_);have f25 := (congrFun e24 0).trans f22;have f26 : σ23 16 = V (.bool y17) := (congrFun e24 16).trans rfl;obtain ⟨y30, e31, h⟩ := obind h;refine k_mid (fun σ' hp' _ => [] = hp' ∧ σ' 20 = V (.bool y30) ∧ Keep [] 17 20 σ23 σ') ?_ ?_
 ·rcases bt y17 with g27 | g27
  ·have h := ctrue e31 g27
   refine k_yes (f26.trans (cgB g27)) (k_mov f25 (k_yes (f26.trans (cgB g27)) ?_));obtain ⟨y28, e29, h⟩ := obind h;refine k_idxS rfl rfl e29 (k_yes (f26.trans (cgB g27)) (k_bin rfl rfl rfl (k_pickT (f26.trans (cgB g27)) rfl ?_)));exact ⟨rfl, cgB (Option.some.inj h), (by repeat (first | exact (Keep.refl _ _ _ _) | refine Keep.upd ?_ rfl _))⟩
  ·have h := cfalse e31 g27
   refine k_no (f26.trans (cgB g27)) rfl (k_no (f26.trans (cgB g27)) rfl (k_no (f26.trans (cgB g27)) rfl (k_pickF (f26.trans (cgB g27)) rfl ?_)));exact ⟨rfl, cgB (Option.some.inj h), (by repeat (first | exact (Keep.refl _ _ _ _) | refine Keep.upd ?_ rfl _))⟩
 rintro σ32 _ _ ⟨rfl, f34, k33⟩;have f35 := (k33 0 rfl).trans f25;refine k_mov f34 (gL fun σ36 e37 => ?_);have f38 := (congrFun e37 0).trans f35;have f39 : σ36 21 = V (.bool y30) := (congrFun e37 21).trans rfl;obtain ⟨y44, e45, h⟩ := obind h;refine k_mid (fun σ' hp' _ => [] = hp' ∧ σ' 25 = V (.bool y44) ∧ Keep [] 22 25 σ36 σ') ?_ ?_
 ·rcases bt y30 with g40 | g40
  ·have h := ctrue e45 g40
   refine k_yes (f39.trans (cgB g40)) (k_mov f38 (k_yes (f39.trans (cgB g40)) ?_));obtain ⟨y41, e42, h⟩ := obind h;refine k_call (.cons rfl rfl (.cons rfl rfl .nil)) (s160  e42) (.inl rfl) ?_;rintro _ rfl;refine k_yes (f39.trans (cgB g40)) (k_bin rfl rfl rfl (k_pickT (f39.trans (cgB g40)) rfl ?_));exact ⟨rfl, cgB (Option.some.inj h), (by repeat (first | exact (Keep.refl _ _ _ _) | refine Keep.upd ?_ rfl _))⟩
  ·have h := cfalse e45 g40
   refine k_no (f39.trans (cgB g40)) rfl (k_no (f39.trans (cgB g40)) rfl (k_no (f39.trans (cgB g40)) rfl (k_pickF (f39.trans (cgB g40)) rfl ?_)));exact ⟨rfl, cgB (Option.some.inj h), (by repeat (first | exact (Keep.refl _ _ _ _) | refine Keep.upd ?_ rfl _))⟩
 rintro σ46 _ _ ⟨rfl, f48, k47⟩;refine k_mov f48 (k_nil (wpE_ret ?_));cases h
 exact e_ret (ct := 0) (.tmp rfl (back_sc rfl) .nil) rfl
theorem s67 {x0 : uT1} {cx0 : List IV} {x1 : uT1} {cx1 : List IV} {r : Bool} (hx0 : uR1.rp false cx0 x0) (hx1 : uR1.rp false cx1 x1) (h : uF67 x0 x1 = some r) : pc L 67 [.agg (cx0.map I), .agg (cx1.map I)] true (P67 r) := by
 refine fn_pure (fn := ir67) rfl (nlt rfl) fun lent hl => ?_;unfold uF67 at h;obtain ⟨_, rfl⟩ := uR1.inv hx0;obtain ⟨_, rfl⟩ := uR1.inv hx1;refine e_reg (k_box rfl rfl fun g1 hp2 k3 r4 => ?_);refine k_box rfl rfl fun g5 hp6 k7 r8 => ?_;have k9 := (r8 2 (by decide)).trans k3;refine k_mov rfl (k_nil (e_reg (k_fadrB (o := 2) rfl k9 (k_loadB rfl k9 rfl (k_fadrB (o := 2) rfl k7 (k_loadB rfl k7 rfl (k_bin rfl rfl rfl (k_mov rfl (gL fun σ10 e11 => ?_)))))))));have f12 : σ10 2 = .v (.c (.r (.ptr 2 g1 0))) := (congrFun e11 2).trans rfl;have f13 : σ10 3 = .v (.c (.r (.ptr 3 g5 0))) := (congrFun e11 3).trans rfl;have f14 : σ10 10 = V (.bool ((x0.Name == x1.Name))) := (congrFun e11 10).trans rfl;refine k_mid (fun σ' hp' _ => hp6 = hp' ∧ σ' 16 = V (.bool (((x0.Name == x1.Name) && (x0.Rate == x1.Rate)))) ∧ Keep [] 11 16 σ10 σ') ?_ ?_
 ·rcases bt ((x0.Name == x1.Name)) with g15 | g15
  ·refine k_yes (f14.trans (cgB g15)) ?_
   refine k_fadrB (o := 1) f12 k9 (k_yes (f14.trans (cgB g15)) (k_loadB rfl k9 rfl (k_yes (f14.trans (cgB g15)) (k_fadrB (o := 1) f13 k7 (k_yes (f14.trans (cgB g15)) (k_loadB rfl k7 rfl (k_yes (f14.trans (cgB g15)) (k_bin rfl rfl rfl (k_pickT (f14.trans (cgB g15)) rfl ?_)))))))));exact ⟨rfl, cgB (by rw [g15]; rfl), (by repeat (first | exact (Keep.refl _ _ _ _) | refine Keep.upd ?_ rfl _))⟩
  ·refine k_no (f14.trans (cgB g15)) rfl ?_
   refine k_no (f14.trans (cgB g15)) rfl (k_no (f14.trans (cgB g15)) rfl (k_no (f14.trans (cgB g15)) rfl (k_no (f14.trans (cgB g15)) rfl (k_pickF (f14.trans (cgB g15)) rfl ?_))));exact ⟨rfl, cgB (by rw [g15]; rfl), (by repeat (first | exact (Keep.refl _ _ _ _) | refine Keep.upd ?_ rfl _))⟩
 rintro σ16 _ _ ⟨rfl, f18, k17⟩;refine k_mov f18 ?_;obtain ⟨u19, e20, h⟩ := bnd_e h;refine k_nil (wpE_ret ?_);cases h
 exact e_ret (ct := 0) (.tmp (cgB e20) (back_sc rfl) .nil) rfl
theorem s131 {x0 : uT1} {cx0 : List IV} {x1 : uT1} {cx1 : List IV} {r : Bool} (hx0 : uR1.rp false cx0 x0) (hx1 : uR1.rp false cx1 x1) (h : uF131 x0 x1 = some r) : pc L 131 [.agg (cx0.map I), .c (I (.lp 1 cx1))] true (P131 r) := by
 refine fn_pure (fn := ir131) rfl (nlt rfl) fun lent hl => ?_;unfold uF131 at h;obtain ⟨_, rfl⟩ := uR1.inv hx0;obtain ⟨_, rfl⟩ := uR1.inv hx1;refine e_reg (k_box rfl rfl fun g1 hp2 k3 r4 => ?_);refine k_mov rfl (k_nil (e_reg (k_loadL rfl (ep_lp 1 [IV.int .i64 x1.Type_, IV.int .i64 x1.Rate, IV.str x1.Name]) rfl (k_loadB rfl k3 rfl ?_))));obtain ⟨y5, e6, h⟩ := obind h;refine k_call (.cons rfl rfl (.cons rfl rfl .nil)) (s67 (cx0 := [IV.int .i64 x1.Type_, IV.int .i64 x1.Rate, IV.str x1.Name]) (uR1.mk) (cx1 := [IV.int .i64 x0.Type_, IV.int .i64 x0.Rate, IV.str x0.Name]) (uR1.mk) e6) (.inl rfl) ?_;rintro _ rfl;refine k_mov rfl (k_nil (wpE_ret ?_));cases h
 exact e_ret (ct := 0) (.tmp rfl (back_sc rfl) .nil) rfl
theorem s64 {x0 : List uT1} {vx0 : IV} {r : Int} (hx0 : sv uR1 false vx0 x0) (h : uF64 x0 = some r) : pc L 64 [.c (I vx0)] true (P64 r) := by
 refine fn_pure (fn := ir64) rfl (nlt rfl) fun lent hl => ?_;unfold uF64 at h;refine e_reg (k_mov rfl (k_nil (wpE_seq (e_reg (k_mov rfl (k_len rfl (sv.any [] _ hx0) (k_bin rfl rfl rfl (k_nil (wpE_cond (p := (decide (((List.length x0 : Int)) > ((20 : Int))))) rfl (fun g1 => ?_) (fun g1 => ?_))))))))))
 ·have h := ctrue h g1
  refine e_reg (k_mov rfl (k_nil (wpE_ret ?_)));cases h
  exact e_ret (ct := 0) (.tmp rfl (back_sc rfl) .nil) rfl
 ·have h := cfalse h g1
  refine wpE_skip (wpE_seq (e_reg (k_mov rfl (k_len rfl (sv.any [] _ hx0) (k_mov rfl (k_nil (wpE_block (gE fun σ2 e3 => ?_))))))));have f4 : σ2 0 = .v (.c ((I vx0))) := (congrFun e3 0).trans rfl;have f5 : σ2 8 = .v (.c ((I vx0))) := (congrFun e3 8).trans rfl;have f6 : σ2 9 = V (.int .i64 ((List.length x0 : Int))) := (congrFun e3 9).trans rfl;have f7 : σ2 10 = V (.int .i64 ((0 : Int))) := (congrFun e3 10).trans rfl;obtain ⟨e8, h9, h⟩ := lret_e h;refine wpE_mono (e_loop h9 (I := fun s σ' hp' _ => σ' 10 = V (.int .i64 s) ∧ Keep [2, 3, 4] 10 37 σ2 σ' ∧ Fr [4] [] hp') (X := fun e ex σ' hp' _ => match e with | .inl e => ex = .exit 0 ∧ Keep [2, 3, 4] 10 37 σ2 σ' ∧ Fr [4] [] hp' | .inr r => ex = .ret ∧ ∀ ct, atEnd 38 [Res.tmp 2] (fin lent (P64 r)) .ret σ' hp' ct) ⟨f7, Keep.refl _ _ _ _, Fr.refl _ _⟩ ?_) ?_
  ·clear h
   rintro w10 o σ12 hp13 _ h ⟨f11, k14, r15⟩;have h : uF64a x0 w10 = some o := h; unfold uF64a at h;have f16 := (k14 0 rfl).trans f4;have f17 := (k14 8 rfl).trans f5;have f18 := (k14 9 rfl).trans f6;refine e_reg (k_bin f11 f18 rfl (k_nil (wpE_seq (wpE_cond (p := (decide (w10 < ((List.length x0 : Int))))) rfl (fun g19 => ?_) (fun g19 => ?_)))))
   ·have h := ctrue h g19
    refine wpE_skip (wpE_seq (wpE_block (e_reg (k_mov f11 ?_))));obtain ⟨y20, e21, h⟩ := obind h;refine k_iadrL f17 (sv.any [] _ hx0) f11 e21 rfl fun p22 c23 q24 h25 => ?_;obtain ⟨_, rfl⟩ := uR1.inv h25;refine k_loadL rfl q24 rfl (k_alloc fun g26 hp27 k28 r29 => ?_);have r30 : Fr [4] [] hp27 := Fr.ext r15 r29 rfl;refine k_mov rfl (k_storeB rfl rfl k28 rfl fun hp31 k32 r33 => ?_);have r34 : Fr [4] [] hp31 := Fr.ext r30 r33 rfl;refine k_nil (wpE_seq (e_reg (k_fadrB (o := 0) rfl k32 (k_loadB rfl k32 rfl ?_))));obtain ⟨y35, e36, h⟩ := obind h;refine k_call (.cons rfl rfl (.cons rfl rfl (.cons rfl rfl .nil))) (s70  e36) (.inl rfl) ?_;rintro _ rfl;refine k_not rfl (k_nil (wpE_cond (p := (!y35)) rfl (fun g38 => ?_) (fun g38 => ?_)))
    ·have h := ctrue h g38
     refine e_reg (k_mov rfl (k_nil (wpE_ret ?_)));cases h
     exact ⟨by decide, rfl, fun _ => e_ret (ct := 0) (.tmp rfl (back_sc rfl) .nil) rfl⟩
    ·have h := cfalse h g38
     refine wpE_skip (wpE_seq (e_reg (k_mov f16 (k_mov rfl ?_))));obtain ⟨y39, e40, h⟩ := obind h;refine k_slcA rfl (sv.any [] _ hx0) .none (.some rfl) e40 rfl fun a41 o42 => ?_;refine k_mkfn (f := 129) (.cons rfl rfl .nil) ?_;obtain ⟨v43, q44, q45⟩ := (o42).lend [] rfl;obtain ⟨y46, e47, h⟩ := obind h;refine k_call (.cons rfl q44 (.cons rfl (lend_clo (.ptr (cs := [IV.int .i64 y20.Type_, IV.int .i64 y20.Rate, IV.str y20.Name]) k32 .nil)) .nil)) (s65 q45 (show CK100 L 129 [(.lp 1 [IV.int .i64 y20.Type_, IV.int .i64 y20.Rate, IV.str y20.Name])] (fun a0 => uF129 a0 y20) from fun a0 b0 q0 r h => s129 q0 (cx1 := [IV.int .i64 y20.Type_, IV.int .i64 y20.Rate, IV.str y20.Name]) (uR1.mk) h) e47) (.inl rfl) ?_;rintro _ rfl;refine k_nil (wpE_cond (p := y46) rfl (fun g49 => ?_) (fun g49 => ?_))
     ·have h := ctrue h g49
      refine e_reg (k_mov rfl (k_nil (wpE_ret ?_)));cases h
      exact ⟨by decide, rfl, fun _ => e_ret (ct := 0) (.tmp rfl (back_sc rfl) .nil) rfl⟩
     ·have h := cfalse h g49
      refine wpE_skip (wpE_seq (e_reg (k_fadrB (o := 2) rfl k32 (k_loadB rfl k32 rfl ?_))));obtain ⟨y50, e51, h⟩ := obind h;refine k_call (.cons rfl rfl .nil) (s130  e51) (.inl rfl) ?_;rintro _ rfl;refine k_not rfl (k_nil (wpE_cond (p := (!y50)) rfl (fun g53 => ?_) (fun g53 => ?_)))
      ·have h := ctrue h g53
       refine e_reg (k_mov rfl (k_nil (wpE_ret ?_)));cases h
       exact ⟨by decide, rfl, fun _ => e_ret (ct := 0) (.tmp rfl (back_sc rfl) .nil) rfl⟩
      ·have h := cfalse h g53
       refine wpE_skip (wpE_seq (e_reg (k_fadrB (o := 1) rfl k32 (k_loadB rfl k32 rfl ?_))));obtain ⟨y54, e55, h⟩ := obind h;refine k_call (.cons rfl rfl (.cons rfl rfl (.cons rfl rfl .nil))) (s70  e55) (.inl rfl) ?_;rintro _ rfl;refine k_not rfl (k_nil (wpE_cond (p := (!y54)) rfl (fun g57 => ?_) (fun g57 => ?_)))
       ·have h := ctrue h g57
        refine e_reg (k_mov rfl (k_nil (wpE_ret ?_)));cases h
        exact ⟨by decide, rfl, fun _ => e_ret (ct := 0) (.tmp rfl (back_sc rfl) .nil) rfl⟩
       ·have h := cfalse h g57
        refine wpE_skip (e_reg (k_mov f16 (k_mov rfl ?_)));obtain ⟨y58, e59, h⟩ := obind h;refine k_slcA rfl (sv.any [] _ hx0) .none (.some rfl) e59 rfl fun a60 o61 => ?_;refine k_mkfn (f := 131) (.cons rfl rfl .nil) ?_;obtain ⟨v62, q63, q64⟩ := (o61).lend [] rfl;obtain ⟨y65, e66, h⟩ := obind h;refine k_call (.cons rfl q63 (.cons rfl (lend_clo (.ptr (cs := [IV.int .i64 y20.Type_, IV.int .i64 y20.Rate, IV.str y20.Name]) k32 .nil)) .nil)) (s65 q64 (show CK100 L 131 [(.lp 1 [IV.int .i64 y20.Type_, IV.int .i64 y20.Rate, IV.str y20.Name])] (fun a0 => uF131 a0 y20) from fun a0 b0 q0 r h => s131 q0 (cx1 := [IV.int .i64 y20.Type_, IV.int .i64 y20.Rate, IV.str y20.Name]) (uR1.mk) h) e66) (.inl rfl) ?_;rintro _ rfl;refine k_nil (wpE_cond (p := y65) rfl (fun g68 => ?_) (fun g68 => ?_))
        ·have h := ctrue h g68
         refine e_reg (k_mov rfl (k_nil (wpE_ret ?_)));cases h
         exact ⟨by decide, rfl, fun _ => e_ret (ct := 0) (.tmp rfl (back_sc rfl) .nil) rfl⟩
        ·have h := cfalse h g68
         refine wpE_skip (e_last (k_bin f11 rfl rfl (k_mov rfl (k_nil ?_))));cases h
         exact ⟨rfl, rfl, (by repeat (first | exact k14 | refine Keep.upd ?_ rfl _)), r34⟩
   ·have h := cfalse h g19
    refine wpE_exit ?_;cases h
    exact ⟨by decide, rfl, (by repeat (first | exact k14 | refine Keep.upd ?_ rfl _)), r15⟩
  rcases e8 with _ | r1;rotate_left
  ·rintro _ _ _ _ ⟨rfl, hX⟩
   cases h
   exact hX 0
  rintro _ σ69 hp70 _ ⟨rfl, k71, r72⟩;refine e_reg (k_mov rfl (k_nil (wpE_ret ?_)));cases h
  exact e_ret (ct := 0) (.tmp rfl (back_sc rfl) .nil) rfl
theorem s66 {x0 : uT1} {cx0 : List IV} {x1 : uT1} {cx1 : List IV} {r : Bool} (hx0 : uR1.rp false cx0 x0) (hx1 : uR1.rp false cx1 x1) (h : uF66 x0 x1 = some r) : pc L 66 [.agg (cx0.map I), .c (I (.lp 1 cx1))] true (P66 r) := by
 refine fn_pure (fn := ir66) rfl (nlt rfl) fun lent hl => ?_;unfold uF66 at h;obtain ⟨_, rfl⟩ := uR1.inv hx0;obtain ⟨_, rfl⟩ := uR1.inv hx1;refine e_reg (k_box rfl rfl fun g1 hp2 k3 r4 => ?_);refine k_mov rfl (k_nil (e_reg (k_loadL rfl (ep_lp 1 [IV.int .i64 x1.Type_, IV.int .i64 x1.Rate, IV.str x1.Name]) rfl (k_loadB rfl k3 rfl ?_))));obtain ⟨y5, e6, h⟩ := obind h;refine k_call (.cons rfl rfl (.cons rfl rfl .nil)) (s67 (cx0 := [IV.int .i64 x1.Type_, IV.int .i64 x1.Rate, IV.str x1.Name]) (uR1.mk) (cx1 := [IV.int .i64 x0.Type_, IV.int .i64 x0.Rate, IV.str x0.Name]) (uR1.mk) e6) (.inl rfl) ?_;rintro _ rfl;refine k_mov rfl (k_nil (wpE_ret ?_));cases h
 exact e_ret (ct := 0) (.tmp rfl (back_sc rfl) .nil) rfl
theorem s11 {x0 : List uT1} {vx0 : IV} {x1 : List uT1} {vx1 : IV} {r : List uT1 × Int} (hx0 : sv uR1 false vx0 x0) (hx1 : sv uR1 false vx1 x1) (h : uF11 x0 x1 = some r) : pc L 11 [.c (I vx0), .c (I vx1)] true (P11 r) := by
 refine fn_pure (fn := ir11) rfl (nlt rfl) fun lent hl => ?_;unfold uF11 at h;refine e_reg (k_mov rfl (k_mov rfl (k_nil (wpE_seq (e_reg (k_mov rfl ?_))))));obtain ⟨y1, e2, h⟩ := obind h;refine k_call (.cons rfl rfl .nil) (s64 (sv_retag hx0) e2) (.inl rfl) ?_;rintro _ rfl;refine k_mov rfl (k_nil (e_reg (k_mov rfl (k_bin rfl rfl rfl (k_nil (wpE_cond (p := (y1 != ((0 : Int)))) rfl (fun g4 => ?_) (fun g4 => ?_)))))))
 ·have h := ctrue h g4
  refine e_reg (k_mov rfl (k_mov rfl (k_mov rfl (k_nil (wpE_ret ?_)))));cases h
  exact e_ret (ct := 0) (.tmp rfl (back_c (backC_inl fun _ => sv_fresh (sv_nil uR1 true))) (.tmp rfl (back_sc rfl) .nil)) ⟨IV.nilS, rfl, (sv_nil uR1 true)⟩
 ·have h := cfalse h g4
  refine wpE_skip (wpE_seq (e_reg (k_mov rfl ?_)));obtain ⟨y5, e6, h⟩ := obind h;refine k_call (.cons rfl rfl .nil) (s64 (sv_retag hx1) e6) (.inl rfl) ?_;rintro _ rfl;refine k_mov rfl (k_nil (e_reg (k_mov rfl (k_bin rfl rfl rfl (k_nil (wpE_cond (p := (y5 != ((0 : Int)))) rfl (fun g8 => ?_) (fun g8 => ?_)))))))
  ·have h := ctrue h g8
   refine e_reg (k_mov rfl (k_mov rfl (k_mov rfl (k_nil (wpE_ret ?_)))));cases h
   exact e_ret (ct := 0) (.tmp rfl (back_c (backC_inl fun _ => sv_fresh (sv_nil uR1 true))) (.tmp rfl (back_sc rfl) .nil)) ⟨IV.nilS, rfl, (sv_nil uR1 true)⟩
  ·have h := cfalse h g8
   refine wpE_skip (e_reg (k_mov rfl (k_nil (wpE_seq (e_reg (k_mov rfl (k_len rfl (sv.any [] _ hx0) (k_mov rfl (k_nil ?_)))))))));refine wpE_block (gE fun σ9 e10 => ?_);have f11 : σ9 1 = .v (.c ((I vx1))) := (congrFun e10 1).trans rfl;have f12 : σ9 8 = .v (.c ((I .nilS))) := (congrFun e10 8).trans rfl;have f13 : σ9 21 = .v (.c ((I vx0))) := (congrFun e10 21).trans rfl;have f14 : σ9 22 = V (.int .i64 ((List.length x0 : Int))) := (congrFun e10 22).trans rfl;have f15 : σ9 23 = V (.int .i64 ((0 : Int))) := (congrFun e10 23).trans rfl;obtain ⟨y62, h17, h⟩ := obind h;refine wpE_mono (e_loop h17 (I := fun s σ' hp' _ => (∃ a, σ' 8 = .v (.c a) ∧ so [33] uR1 true hp' a s.1) ∧ σ' 23 = V (.int .i64 s.2) ∧ Keep [8, 10] 23 34 σ9 σ' ∧ Fr [10, 33] [] hp') (X := fun e ex σ' hp' _ => ex = .exit 0 ∧ (∃ a, σ' 8 = .v (.c a) ∧ so [33] uR1 true hp' a e) ∧ Keep [8, 10] 23 34 σ9 σ' ∧ Fr [10, 33] [] hp') ⟨⟨_, f12, (so_nil _ _ _ _)⟩, f15, Keep.refl _ _ _ _, Fr.refl _ _⟩ ?_) ?_
   ·clear h
    rintro ⟨w18, w19⟩ o σ24 hp25 _ h ⟨⟨a20, f21, o22⟩, f23, k26, r27⟩;have h : uF11a x0 x1 w18 w19 = some o := h; unfold uF11a at h;have f28 := (k26 1 rfl).trans f11;have f29 := (k26 21 rfl).trans f13;have f30 := (k26 22 rfl).trans f14;refine e_reg (k_bin f23 f30 rfl (k_nil (wpE_seq (wpE_cond (p := (decide (w19 < ((List.length x0 : Int))))) rfl (fun g31 => ?_) (fun g31 => ?_)))))
    ·have h := ctrue h g31
     refine wpE_skip (wpE_seq (wpE_block (e_reg ?_)));obtain ⟨y32, e33, h⟩ := obind h;refine k_iadrL f29 (sv.any [] _ hx0) f23 e33 rfl fun p34 c35 q36 h37 => ?_;obtain ⟨_, rfl⟩ := uR1.inv h37;refine k_loadL rfl q36 rfl (k_alloc fun g38 hp39 k40 r41 => ?_);have r42 : Fr [10, 33] [] hp39 := Fr.ext r27 r41 rfl;have o43 := o22.fr r41 rfl;refine k_storeB rfl rfl k40 rfl fun hp44 k45 r46 => ?_;have r47 : Fr [10, 33] [] hp44 := Fr.ext r42 r46 rfl;have o48 := o43.fr r46 rfl;refine k_nil (e_reg (k_mov f28 (k_mkfn (f := 66) (.cons rfl rfl .nil) ?_)));obtain ⟨y49, e50, h⟩ := obind h;refine k_call (.cons rfl rfl (.cons rfl (lend_clo (.ptr (cs := [IV.int .i64 y32.Type_, IV.int .i64 y32.Rate, IV.str y32.Name]) k45 .nil)) .nil)) (s65 (sv_retag hx1) (show CK100 L 66 [(.lp 1 [IV.int .i64 y32.Type_, IV.int .i64 y32.Rate, IV.str y32.Name])] (fun a0 => uF66 a0 y32) from fun a0 b0 q0 r h => s66 q0 (cx1 := [IV.int .i64 y32.Type_, IV.int .i64 y32.Rate, IV.str y32.Name]) (uR1.mk) h) e50) (.inl rfl) ?_;rintro _ rfl;refine k_nil (wpE_cond (p := y49) rfl (fun g52 => ?_) (fun g52 => ?_))
     ·have h := ctrue h g52
      refine e_last (k_mov f21 (k_loadB rfl k45 rfl (k_bslL (len := 1) (vs := [IV.int .i64 y32.Type_, IV.int .i64 y32.Rate, IV.str y32.Name]) (.cons rfl .nil) (by decide) rfl ?_)));have o53 : sv uR1 true (.lit 0 [IV.int .i64 y32.Type_, IV.int .i64 y32.Rate, IV.str y32.Name] 1) ([y32] : List uT1) := sv_lit true (⟨[IV.int .i64 y32.Type_, IV.int .i64 y32.Rate, IV.str y32.Name], _, rfl, (uR1.mk), rfl⟩) rfl;obtain ⟨y59, e60, h⟩ := obind h;refine k_app (E := uR1) (f := true) rfl o48 rfl (sv.any [] _ o53) e60 rfl fun a54 hp55 ct56 o57 r58 => ?_;have r61 : Fr [10, 33] [] hp55 := Fr.ext r47 r58 rfl;refine k_mov rfl (k_nil (e_last (k_bin f23 rfl rfl (k_mov rfl (k_nil ?_)))));cases h
      exact ⟨rfl, ⟨_, rfl, ((o57).wide rfl)⟩, rfl, (by repeat (first | exact k26 | refine Keep.upd ?_ rfl _)), r61⟩
     ·have h := cfalse h g52
      refine wpE_skip (e_last (k_bin f23 rfl rfl (k_mov rfl (k_nil ?_))));cases h
      exact ⟨rfl, ⟨_, f21, ((o48).wide rfl)⟩, rfl, (by repeat (first | exact k26 | refine Keep.upd ?_ rfl _)), r47⟩
    ·have h := cfalse h g31
     refine wpE_exit ?_;cases h
     exact ⟨by decide, rfl, ⟨_, f21, ((o22).wide rfl)⟩, (by repeat (first | exact k26 | refine Keep.upd ?_ rfl _)), r27⟩
   rintro _ σ63 hp64 _ ⟨rfl, ⟨a67, f68, o69⟩, k65, r66⟩;refine wpE_seq (e_reg (k_mov f68 (k_len rfl o69.any (k_bin rfl rfl rfl (k_nil (wpE_cond (p := (((List.length y62 : Int)) == ((0 : Int)))) rfl (fun g70 => ?_) (fun g70 => ?_)))))))
   ·have h := ctrue h g70
    refine e_reg (k_mov rfl (k_mov rfl (k_nil (wpE_ret ?_))));cases h
    exact e_ret (ct := 0) (.tmp rfl (back_c (backC_inl fun _ => sv_fresh (sv_nil uR1 true))) (.tmp rfl (back_sc rfl) .nil)) ⟨IV.nilS, rfl, (sv_nil uR1 true)⟩
   ·have h := cfalse h g70
    refine wpE_skip (e_reg (k_mov f68 (k_mov rfl (k_mov rfl (k_nil (wpE_ret ?_))))));obtain ⟨v71, q72, q73⟩ := (o69.any).back lent hl [] rfl;cases h
    exact e_ret (ct := 0) (.tmp rfl (back_c q72) (.tmp rfl (back_sc rfl) .nil)) ⟨v71, rfl, q73⟩
theorem o11 {x0 : List uT1} {vx0 : IV} {x1 : List uT1} {vx1 : IV} {r : List uT1 × Int} (hx0 : sv uR1 false vx0 x0) (hx1 : sv uR1 false vx1 x1) (h : uF11 x0 x1 = some r) : ownC L 11 [.c (I vx0), .c (I vx1)] [] (O11 r) := by
 refine fn_own0 (fn := ir11) rfl (nlt rfl) ?_;unfold uF11 at h;refine e_reg (k_mov rfl (k_mov rfl (k_nil (wpE_seq (e_reg (k_mov rfl ?_))))));obtain ⟨y1, e2, h⟩ := obind h;refine k_call (.cons rfl rfl .nil) (s64 (sv_retag hx0) e2) (.inl rfl) ?_;rintro _ rfl;refine k_mov rfl (k_nil (e_reg (k_mov rfl (k_bin rfl rfl rfl (k_nil (wpE_cond (p := (y1 != ((0 : Int)))) rfl (fun g4 => ?_) (fun g4 => ?_)))))))
 ·have h := ctrue h g4
  refine e_reg (k_mov rfl (k_mov rfl (k_mov rfl (k_nil (wpE_ret ?_)))));cases h
  exact e_own (ct := 0) (.tmp rfl (.tmp rfl .nil)) ⟨_, rfl, (so_nil _ _ _ _)⟩
 ·have h := cfalse h g4
  refine wpE_skip (wpE_seq (e_reg (k_mov rfl ?_)));obtain ⟨y5, e6, h⟩ := obind h;refine k_call (.cons rfl rfl .nil) (s64 (sv_retag hx1) e6) (.inl rfl) ?_;rintro _ rfl;refine k_mov rfl (k_nil (e_reg (k_mov rfl (k_bin rfl rfl rfl (k_nil (wpE_cond (p := (y5 != ((0 : Int)))) rfl (fun g8 => ?_) (fun g8 => ?_)))))))
  ·have h := ctrue h g8
   refine e_reg (k_mov rfl (k_mov rfl (k_mov rfl (k_nil (wpE_ret ?_)))));cases h
   exact e_own (ct := 0) (.tmp rfl (.tmp rfl .nil)) ⟨_, rfl, (so_nil _ _ _ _)⟩
  ·have h := cfalse h g8
   refine wpE_skip (e_reg (k_mov rfl (k_nil (wpE_seq (e_reg (k_mov rfl (k_len rfl (sv.any [] _ hx0) (k_mov rfl (k_nil ?_)))))))));refine wpE_block (gE fun σ9 e10 => ?_);have f11 : σ9 1 = .v (.c ((I vx1))) := (congrFun e10 1).trans rfl;have f12 : σ9 8 = .v (.c ((I .nilS))) := (congrFun e10 8).trans rfl;have f13 : σ9 21 = .v (.c ((I vx0))) := (congrFun e10 21).trans rfl;have f14 : σ9 22 = V (.int .i64 ((List.length x0 : Int))) := (congrFun e10 22).trans rfl;have f15 : σ9 23 = V (.int .i64 ((0 : Int))) := (congrFun e10 23).trans rfl;obtain ⟨y62, h17, h⟩ := obind h;refine wpE_mono (e_loop h17 (I := fun s σ' hp' _ => (∃ a, σ' 8 = .v (.c a) ∧ so [33] uR1 true hp' a s.1) ∧ σ' 23 = V (.int .i64 s.2) ∧ Keep [8, 10] 23 34 σ9 σ' ∧ Fr [10, 33] [] hp') (X := fun e ex σ' hp' _ => ex = .exit 0 ∧ (∃ a, σ' 8 = .v (.c a) ∧ so [33] uR1 true hp' a e) ∧ Keep [8, 10] 23 34 σ9 σ' ∧ Fr [10, 33] [] hp') ⟨⟨_, f12, (so_nil _ _ _ _)⟩, f15, Keep.refl _ _ _ _, Fr.refl _ _⟩ ?_) ?_
   ·clear h
    rintro ⟨w18, w19⟩ o σ24 hp25 _ h ⟨⟨a20, f21, o22⟩, f23, k26, r27⟩;have h : uF11a x0 x1 w18 w19 = some o := h; unfold uF11a at h;have f28 := (k26 1 rfl).trans f11;have f29 := (k26 21 rfl).trans f13;have f30 := (k26 22 rfl).trans f14;refine e_reg (k_bin f23 f30 rfl (k_nil (wpE_seq (wpE_cond (p := (decide (w19 < ((List.length x0 : Int))))) rfl (fun g31 => ?_) (fun g31 => ?_)))))
    ·have h := ctrue h g31
     refine wpE_skip (wpE_seq (wpE_block (e_reg ?_)));obtain ⟨y32, e33, h⟩ := obind h;refine k_iadrL f29 (sv.any [] _ hx0) f23 e33 rfl fun p34 c35 q36 h37 => ?_;obtain ⟨_, rfl⟩ := uR1.inv h37;refine k_loadL rfl q36 rfl (k_alloc fun g38 hp39 k40 r41 => ?_);have r42 : Fr [10, 33] [] hp39 := Fr.ext r27 r41 rfl;have o43 := o22.fr r41 rfl;refine k_storeB rfl rfl k40 rfl fun hp44 k45 r46 => ?_;have r47 : Fr [10, 33] [] hp44 := Fr.ext r42 r46 rfl;have o48 := o43.fr r46 rfl;refine k_nil (e_reg (k_mov f28 (k_mkfn (f := 66) (.cons rfl rfl .nil) ?_)));obtain ⟨y49, e50, h⟩ := obind h;refine k_call (.cons rfl rfl (.cons rfl (lend_clo (.ptr (cs := [IV.int .i64 y32.Type_, IV.int .i64 y32.Rate, IV.str y32.Name]) k45 .nil)) .nil)) (s65 (sv_retag hx1) (show CK100 L 66 [(.lp 1 [IV.int .i64 y32.Type_, IV.int .i64 y32.Rate, IV.str y32.Name])] (fun a0 => uF66 a0 y32) from fun a0 b0 q0 r h => s66 q0 (cx1 := [IV.int .i64 y32.Type_, IV.int .i64 y32.Rate, IV.str y32.Name]) (uR1.mk) h) e50) (.inl rfl) ?_;rintro _ rfl;refine k_nil (wpE_cond (p := y49) rfl (fun g52 => ?_) (fun g52 => ?_))
     ·have h := ctrue h g52
      refine e_last (k_mov f21 (k_loadB rfl k45 rfl (k_bslL (len := 1) (vs := [IV.int .i64 y32.Type_, IV.int .i64 y32.Rate, IV.str y32.Name]) (.cons rfl .nil) (by decide) rfl ?_)));have o53 : sv uR1 true (.lit 0 [IV.int .i64 y32.Type_, IV.int .i64 y32.Rate, IV.str y32.Name] 1) ([y32] : List uT1) := sv_lit true (⟨[IV.int .i64 y32.Type_, IV.int .i64 y32.Rate, IV.str y32.Name], _, rfl, (uR1.mk), rfl⟩) rfl;obtain ⟨y59, e60, h⟩ := obind h;refine k_app (E := uR1) (f := true) rfl o48 rfl (sv.any [] _ o53) e60 rfl fun a54 hp55 ct56 o57 r58 => ?_;have r61 : Fr [10, 33] [] hp55 := Fr.ext r47 r58 rfl;refine k_mov rfl (k_nil (e_last (k_bin f23 rfl rfl (k_mov rfl (k_nil ?_)))));cases h
      exact ⟨rfl, ⟨_, rfl, ((o57).wide rfl)⟩, rfl, (by repeat (first | exact k26 | refine Keep.upd ?_ rfl _)), r61⟩
     ·have h := cfalse h g52
      refine wpE_skip (e_last (k_bin f23 rfl rfl (k_mov rfl (k_nil ?_))));cases h
      exact ⟨rfl, ⟨_, f21, ((o48).wide rfl)⟩, rfl, (by repeat (first | exact k26 | refine Keep.upd ?_ rfl _)), r47⟩
    ·have h := cfalse h g31
     refine wpE_exit ?_;cases h
     exact ⟨by decide, rfl, ⟨_, f21, ((o22).wide rfl)⟩, (by repeat (first | exact k26 | refine Keep.upd ?_ rfl _)), r27⟩
   rintro _ σ63 hp64 _ ⟨rfl, ⟨a67, f68, o69⟩, k65, r66⟩;refine wpE_seq (e_reg (k_mov f68 (k_len rfl o69.any (k_bin rfl rfl rfl (k_nil (wpE_cond (p := (((List.length y62 : Int)) == ((0 : Int)))) rfl (fun g70 => ?_) (fun g70 => ?_)))))))
   ·have h := ctrue h g70
    refine e_reg (k_mov rfl (k_mov rfl (k_nil (wpE_ret ?_))));cases h
    exact e_own (ct := 0) (.tmp rfl (.tmp rfl .nil)) ⟨_, rfl, (so_nil _ _ _ _)⟩
   ·have h := cfalse h g70
    refine wpE_skip (e_reg (k_mov f68 (k_mov rfl (k_mov rfl (k_nil (wpE_ret ?_))))));cases h
    exact e_own (ct := 0) (.tmp rfl (.tmp rfl .nil)) ⟨_, rfl, (o69.wide rfl)⟩
theorem g12 {x0 : List uT1} {a0 : AC} {bs : List Blk} {r : List uT1} (h0 : so [PB] uR1 true (heap0 bs) a0 x0) (h : uF12 x0 = some r) : ownC L 12 [.c a0] bs (O12 a0 r) := by
 refine fn_givenS (fn := ir12) rfl (nlt rfl) fun hp0 k0 => ?_;rw [← k0] at h0;unfold uF12 at h;refine e_reg (k_alloc fun g1 hp2 k3 r4 => ?_);have o5 := h0.fr r4 rfl;refine k_nil (e_reg (k_mov rfl (k_len rfl o5.any (k_mov rfl (k_nil (wpE_block (gE fun σ6 e7 => ?_)))))));have f8 : σ6 0 = .v (.c a0) := (congrFun e7 0).trans rfl;have f9 : σ6 2 = .v (.c (.r (.ptr 2 g1 0))) := (congrFun e7 2).trans rfl;have f10 : σ6 5 = V (.int .i64 ((List.length x0 : Int))) := (congrFun e7 5).trans rfl;have f11 : σ6 6 = V (.int .i64 ((0 : Int))) := (congrFun e7 6).trans rfl;obtain ⟨y41, h13, h⟩ := obind h;refine wpE_mono (e_loop h13 (I := fun s σ' hp' _ => (σ' 0 = .v (.c a0) ∧ so [1000000] uR1 true hp' a0 s.1) ∧ σ' 6 = V (.int .i64 s.2) ∧ Keep [3] 6 13 σ6 σ' ∧ Fr [1000000] hp2 hp') (X := fun e ex σ' hp' _ => ex = .exit 0 ∧ (σ' 0 = .v (.c a0) ∧ so [1000000] uR1 true hp' a0 e) ∧ Keep [3] 6 13 σ6 σ' ∧ Fr [1000000] hp2 hp') ⟨⟨f8, ((o5).wide rfl)⟩, f11, Keep.refl _ _ _ _, Fr.refl _ _⟩ ?_) ?_
 ·clear h
  rintro ⟨w14, w15⟩ o σ19 hp20 _ h ⟨⟨f16, o17⟩, f18, k21, r22⟩;have h : uF12a x0 w14 w15 = some o := h; unfold uF12a at h;have f23 := (k21 2 rfl).trans f9;have f24 := (k21 5 rfl).trans f10;have k25 := (r22 2 (by decide)).trans k3;refine e_reg (k_bin f18 f24 rfl (k_nil (wpE_seq (wpE_cond (p := (decide (w15 < ((List.length x0 : Int))))) rfl (fun g26 => ?_) (fun g26 => ?_)))))
  ·have h := ctrue h g26
   refine wpE_skip (wpE_seq (wpE_block (e_reg (k_mov f18 (k_mov rfl (k_nil (e_last (k_mov f16 (k_mov rfl ?_)))))))));refine k_loadB f23 k25 rfl ?_;obtain ⟨y27, e28, h⟩ := obind h;refine k_iadrO (sz := 3) rfl o17 rfl (idx_in e28) rfl fun p29 q30 => ?_;refine k_storeO (ws := [IV.int .i64 ((0 : Int)), IV.int .i64 ((0 : Int)), IV.str (([] : List UInt8))]) (o := 0) (sz := 3) (u' := (⟨(0 : Int), (0 : Int), ([] : List UInt8)⟩ : uT1)) rfl q30 rfl rfl rfl e28 (by decide) rfl (fun _ hc => stoAll hc (uR1.mk)) fun hp31 k32 r33 => ?_;obtain ⟨l34, e35, h⟩ := bnd_e h;have o36 := e35 ▸ k32;have r37 : Fr [1000000] hp2 hp31 := Fr.ext r22 r33 rfl;refine k_nil (e_last (k_bin f18 rfl rfl (k_mov rfl (k_nil ?_))));cases h
   exact ⟨rfl, ⟨f16, ((o36).wide rfl)⟩, rfl, (by repeat (first | exact k21 | refine Keep.upd ?_ rfl _)), r37⟩
  ·have h := cfalse h g26
   refine wpE_exit ?_;cases h
   exact ⟨by decide, rfl, ⟨f16, ((o17).wide rfl)⟩, (by repeat (first | exact k21 | refine Keep.upd ?_ rfl _)), r22⟩
 rintro _ σ42 hp43 _ ⟨rfl, ⟨f46, o47⟩, k44, r45⟩;cases h
 exact e_ownN (ct := 0) .nil ⟨rfl, o47⟩
theorem s133 {x0 : Int} {r : Bool}  (h : uF133 x0 = some r) : pc L 133 [.c (I (.int .i64 x0))] true (P133 r) := by
 refine fn_pure (fn := ir133) rfl (nlt rfl) fun lent hl => ?_;unfold uF133 at h;refine e_reg (k_mov rfl (k_nil (e_reg (k_mov rfl ?_))));obtain ⟨y1, e2, h⟩ := obind h;refine k_call (.cons rfl rfl (.cons rfl rfl (.cons rfl rfl .nil))) (s70  e2) (.inl rfl) ?_;rintro _ rfl;refine k_mov rfl (k_nil (wpE_ret ?_));cases h
 exact e_ret (ct := 0) (.tmp rfl (back_sc rfl) .nil) rfl
theorem s68 {x0 : List Int} {vx0 : IV} {r : Int} (hx0 : sv (Rep.int .i64) false vx0 x0) (h : uF68 x0 = some r) : pc L 68 [.c (I vx0)] true (P68 r) := by
 refine fn_pure (fn := ir68) rfl (nlt rfl) fun lent hl => ?_;unfold uF68 at h;refine e_reg (k_mov rfl (k_nil (wpE_seq (e_reg (k_mov rfl (k_len rfl (sv.any [] _ hx0) (k_bin rfl rfl rfl (k_nil (wpE_cond (p := (decide (((List.length x0 : Int)) > ((20000 : Int))))) rfl (fun g1 => ?_) (fun g1 => ?_))))))))))
 ·have h := ctrue h g1
  refine e_reg (k_mov rfl (k_nil (wpE_ret ?_)));cases h
  exact e_ret (ct := 0) (.tmp rfl (back_sc rfl) .nil) rfl
 ·have h := cfalse h g1
  refine wpE_skip (wpE_seq (e_reg (k_mov rfl (k_len rfl (sv.any [] _ hx0) (k_mov rfl (k_nil (wpE_block (gE fun σ2 e3 => ?_))))))));have f4 : σ2 8 = .v (.c ((I vx0))) := (congrFun e3 8).trans rfl;have f5 : σ2 9 = V (.int .i64 ((List.length x0 : Int))) := (congrFun e3 9).trans rfl;have f6 : σ2 10 = V (.int .i64 ((0 : Int))) := (congrFun e3 10).trans rfl;obtain ⟨e7, h8, h⟩ := lret_e h;refine wpE_mono (e_loop h8 (I := fun s σ' hp' _ => σ' 10 = V (.int .i64 s) ∧ Keep [2, 4] 10 17 σ2 σ' ∧ [] = hp') (X := fun e ex σ' hp' _ => match e with | .inl e => ex = .exit 0 ∧ Keep [2, 4] 10 17 σ2 σ' ∧ [] = hp' | .inr r => ex = .ret ∧ ∀ ct, atEnd 18 [Res.tmp 2] (fin lent (P68 r)) .ret σ' hp' ct) ⟨f6, Keep.refl _ _ _ _, rfl⟩ ?_) ?_
  ·clear h
   rintro w9 o σ11 _ _ h ⟨f10, k13, rfl⟩;have h : uF68a x0 w9 = some o := h; unfold uF68a at h;have f15 := (k13 8 rfl).trans f4;have f16 := (k13 9 rfl).trans f5;refine e_reg (k_bin f10 f16 rfl (k_nil (wpE_seq (wpE_cond (p := (decide (w9 < ((List.length x0 : Int))))) rfl (fun g17 => ?_) (fun g17 => ?_)))))
   ·have h := ctrue h g17
    refine wpE_skip (wpE_seq (wpE_block (e_reg ?_)));obtain ⟨y18, e19, h⟩ := obind h;refine k_iadrL f15 (sv.any [] _ hx0) f10 e19 rfl fun p20 c21 q22 h23 => ?_;obtain rfl : c21 = [IV.int .i64 y18] := h23;refine k_loadL rfl q22 rfl (k_mov rfl (k_nil (e_reg (k_mov rfl ?_))));obtain ⟨y24, e25, h⟩ := obind h;refine k_call (.cons rfl rfl .nil) (s133  e25) (.inl rfl) ?_;rintro _ rfl;refine k_not rfl (k_nil (wpE_cond (p := (!y24)) rfl (fun g27 => ?_) (fun g27 => ?_)))
    ·have h := ctrue h g27
     refine e_reg (k_mov rfl (k_nil (wpE_ret ?_)));cases h
     exact ⟨by decide, rfl, fun _ => e_ret (ct := 0) (.tmp rfl (back_sc rfl) .nil) rfl⟩
    ·have h := cfalse h g27
     refine wpE_skip (e_last (k_bin f10 rfl rfl (k_mov rfl (k_nil ?_))));cases h
     exact ⟨rfl, rfl, (by repeat (first | exact k13 | refine Keep.upd ?_ rfl _)), rfl⟩
   ·have h := cfalse h g17
    refine wpE_exit ?_;cases h
    exact ⟨by decide, rfl, (by repeat (first | exact k13 | refine Keep.upd ?_ rfl _)), rfl⟩
  rcases e7 with _ | r1;rotate_left
  ·rintro _ _ _ _ ⟨rfl, hX⟩
   cases h
   exact hX 0
  rintro _ σ28 _ _ ⟨rfl, k30, rfl⟩;refine e_reg (k_mov rfl (k_nil (wpE_ret ?_)));cases h
  exact e_ret (ct := 0) (.tmp rfl (back_sc rfl) .nil) rfl
theorem s69 {x0 : Int} {r : Int}  (h : uF69 x0 = some r) : pc L 69 [.c (I (.int .i64 x0))] true (P69 r) := by
 refine fn_pure (fn := ir69) rfl (nlt rfl) fun lent hl => ?_;unfold uF69 at h;refine e_reg (k_mov rfl (k_nil (e_reg (k_mov rfl (k_mx2 rfl rfl (k_mn2 rfl rfl (k_mov rfl ?_)))))));obtain ⟨u1, e2, h⟩ := bnd_e h;refine k_nil (wpE_ret ?_);cases h
 exact e_ret (ct := 0) (.tmp (cgI e2) (back_sc rfl) .nil) rfl
theorem s13 {x0 : List (List Int)} {vx0 : IV} {r : List Int × Int} (hx0 : sv (Rep.list (Rep.int .i64)) false vx0 x0) (h : uF13d x0 = some r) : pc L 13 [.c (I vx0)] true (P13 r) := by
 refine fn_pure (fn := ir13) rfl (nlt rfl) fun lent hl => ?_;unfold uF13d at h;refine e_reg (k_mov rfl (k_mov rfl (k_nil (wpE_seq (e_reg (k_mov rfl (k_len rfl (sv.any [] _ hx0) (k_bin rfl rfl rfl (k_nil ?_)))))))));refine wpE_cond (p := (decide (((List.length x0 : Int)) > ((20 : Int))))) rfl (fun g1 => ?_) (fun g1 => ?_)
 ·have h := ctrue h g1
  refine e_reg (k_mov rfl (k_mov rfl (k_nil (wpE_ret ?_))));cases h
  exact e_ret (ct := 0) (.tmp rfl (back_c (backC_inl fun _ => sv_fresh (sv_nil (Rep.int .i64) true))) (.tmp rfl (back_sc rfl) .nil)) ⟨IV.nilS, rfl, (sv_nil (Rep.int .i64) true)⟩
 ·have h := cfalse h g1
  refine wpE_skip (e_reg (k_mov rfl (k_nil (wpE_seq (e_reg (k_mov rfl (k_len rfl (sv.any [] _ hx0) (k_mov rfl (k_nil ?_)))))))));refine wpE_block (gE fun σ2 e3 => ?_);have f4 : σ2 0 = .v (.c ((I vx0))) := (congrFun e3 0).trans rfl;have f5 : σ2 4 = V (.int .i64 ((0 : Int))) := (congrFun e3 4).trans rfl;have f6 : σ2 17 = .v (.c ((I vx0))) := (congrFun e3 17).trans rfl;have f7 : σ2 18 = V (.int .i64 ((List.length x0 : Int))) := (congrFun e3 18).trans rfl;have f8 : σ2 19 = V (.int .i64 ((0 : Int))) := (congrFun e3 19).trans rfl;obtain ⟨e9, h10, h⟩ := lret_e h;refine wpE_mono (e_loop h10 (I := fun s σ' hp' _ => σ' 4 = V (.int .i64 s.1) ∧ σ' 19 = V (.int .i64 s.2) ∧ Keep [2, 3, 4, 6, 7] 19 32 σ2 σ' ∧ [] = hp') (X := fun e ex σ' hp' _ => match e with | .inl e => ex = .exit 0 ∧ σ' 4 = V (.int .i64 e) ∧ Keep [2, 3, 4, 6, 7] 19 32 σ2 σ' ∧ [] = hp' | .inr r => ex = .ret ∧ ∀ ct, atEnd 72 [Res.tmp 2, Res.tmp 3] (fin lent (P13 r)) .ret σ' hp' ct) ⟨f5, f8, Keep.refl _ _ _ _, rfl⟩ ?_) ?_
  ·clear h
   rintro ⟨w11, w12⟩ o σ15 _ _ h ⟨f13, f14, k17, rfl⟩;have h : uF13 x0 w11 w12 = some o := h; unfold uF13 at h;have f20 := (k17 17 rfl).trans f6;have f21 := (k17 18 rfl).trans f7;refine e_reg (k_bin f14 f21 rfl (k_nil (wpE_seq (wpE_cond (p := (decide (w12 < ((List.length x0 : Int))))) rfl (fun g22 => ?_) (fun g22 => ?_)))))
   ·have h := ctrue h g22
    refine wpE_skip (wpE_seq (wpE_block (e_reg ?_)));obtain ⟨y23, e24, h⟩ := obind h;refine k_iadrL f20 (sv.any [] _ hx0) f14 e24 rfl fun p25 c26 q27 h28 => ?_;obtain ⟨v29, rfl, q30⟩ := h28;refine k_loadL rfl q27 rfl (k_mov rfl (k_nil (wpE_seq (e_reg (k_mov rfl ?_)))));obtain ⟨y31, e32, h⟩ := obind h;refine k_call (.cons rfl rfl .nil) (s68 (sv_retag q30) e32) (.inl rfl) ?_;rintro _ rfl;refine k_mov rfl (k_nil (e_reg (k_mov rfl (k_bin rfl rfl rfl (k_nil (wpE_cond (p := (y31 != ((0 : Int)))) rfl (fun g34 => ?_) (fun g34 => ?_)))))))
    ·have h := ctrue h g34
     refine e_reg (k_mov rfl (k_mov rfl (k_mov rfl (k_nil (wpE_ret ?_)))));cases h
     exact ⟨by decide, rfl, fun _ => e_ret (ct := 0) (.tmp rfl (back_c (backC_inl fun _ => sv_fresh (sv_nil (Rep.int .i64) true))) (.tmp rfl (back_sc rfl) .nil)) ⟨IV.nilS, rfl, (sv_nil (Rep.int .i64) true)⟩⟩
    ·have h := cfalse h g34
     refine wpE_skip (e_last (k_mov f13 (k_mov rfl (k_len rfl (sv.any [] _ q30) (k_mx2 rfl rfl (k_mov rfl ?_))))));obtain ⟨u35, e36, h⟩ := bnd_e h;refine k_nil (e_last (k_bin f14 rfl rfl (k_mov rfl (k_nil ?_))));cases h
     exact ⟨rfl, (cgI e36), rfl, (by repeat (first | exact k17 | refine Keep.upd ?_ rfl _)), rfl⟩
   ·have h := cfalse h g22
    refine wpE_exit ?_;cases h
    exact ⟨by decide, rfl, f13, (by repeat (first | exact k17 | refine Keep.upd ?_ rfl _)), rfl⟩
  rcases e9 with y37 | r1;rotate_left
  ·rintro _ _ _ _ ⟨rfl, hX⟩
   cases h
   exact hX 0
  rintro _ σ38 _ _ ⟨rfl, f42, k40, rfl⟩;have f43 := (k40 0 rfl).trans f4;refine e_reg (k_mov f42 ?_);obtain ⟨y44, e45, h⟩ := obind h;refine k_mksl (E := (Rep.int .i64)) (f := true) rfl rfl e45 (rfl) rfl fun a46 hp47 o48 r49 => ?_;refine k_mov rfl (k_nil (wpE_seq (e_reg (k_mov f43 (k_len rfl (sv.any [] _ hx0) (k_mov rfl (k_nil (wpE_block (gE fun σ50 e51 => ?_)))))))));have f52 : σ50 8 = .v (.c a46) := (congrFun e51 8).trans rfl;have f53 : σ50 35 = .v (.c ((I vx0))) := (congrFun e51 35).trans rfl;have f54 : σ50 36 = V (.int .i64 ((List.length x0 : Int))) := (congrFun e51 36).trans rfl;have f55 : σ50 37 = V (.int .i64 ((0 : Int))) := (congrFun e51 37).trans rfl;obtain ⟨y148, h57, h⟩ := obind h;refine wpE_mono (e_loop h57 (I := fun s σ' hp' _ => (∃ a, σ' 8 = .v (.c a) ∧ so [34] (Rep.int .i64) true hp' a s.1) ∧ σ' 37 = V (.int .i64 s.2) ∧ Keep [10, 11, 12] 37 56 σ50 σ' ∧ Fr [34] hp47 hp') (X := fun e ex σ' hp' _ => ex = .exit 2 ∧ (∃ a, σ' 8 = .v (.c a) ∧ so [34] (Rep.int .i64) true hp' a e) ∧ Keep [10, 11, 12] 37 56 σ50 σ' ∧ Fr [34] hp47 hp') ⟨⟨_, f52, ((o48).wide rfl)⟩, f55, Keep.refl _ _ _ _, Fr.refl _ _⟩ ?_) ?_
  ·clear h
   rintro ⟨w58, w59⟩ o σ64 hp65 _ h ⟨⟨a60, f61, o62⟩, f63, k66, r67⟩;have h : uF13a x0 w58 w59 = some o := h; unfold uF13a at h;have f68 := (k66 35 rfl).trans f53;have f69 := (k66 36 rfl).trans f54;refine e_reg (k_bin f63 f69 rfl (k_nil (wpE_seq (wpE_cond (p := (decide (w59 < ((List.length x0 : Int))))) rfl (fun g70 => ?_) (fun g70 => ?_)))))
   ·have h := ctrue h g70
    refine wpE_skip (wpE_seq (wpE_block (e_reg ?_)));obtain ⟨y71, e72, h⟩ := obind h;refine k_iadrL f68 (sv.any [] _ hx0) f63 e72 rfl fun p73 c74 q75 h76 => ?_;obtain ⟨v77, rfl, q78⟩ := h76;refine k_loadL rfl q75 rfl (k_mov rfl (k_nil (e_reg (k_mov rfl (k_len rfl (sv.any [] _ q78) (k_mov rfl (k_nil (wpE_block (gE fun σ79 e80 => ?_)))))))));have k81 : Keep [10, 11, 12] 37 56 σ50 σ79 := by rw [e80]; repeat (first | exact k66 | refine Keep.upd ?_ rfl _)
    have f82 := (congrFun e80 8).trans f61;have f85 := (congrFun e80 37).trans f63;have f86 : σ79 41 = .v (.c ((I v77))) := (congrFun e80 41).trans rfl;have f87 : σ79 42 = V (.int .i64 ((List.length y71 : Int))) := (congrFun e80 42).trans rfl;have f88 : σ79 43 = V (.int .i64 ((0 : Int))) := (congrFun e80 43).trans rfl;obtain ⟨y135, h90, h⟩ := obind h;refine wpE_mono (e_loop h90 (I := fun s σ' hp' _ => (∃ a, σ' 8 = .v (.c a) ∧ so [34] (Rep.int .i64) true hp' a s.1) ∧ σ' 43 = V (.int .i64 s.2) ∧ Keep [11, 12] 43 55 σ79 σ' ∧ Fr [34] hp65 hp') (X := fun e ex σ' hp' _ => ex = .exit 4 ∧ (∃ a, σ' 8 = .v (.c a) ∧ so [34] (Rep.int .i64) true hp' a e) ∧ Keep [11, 12] 43 55 σ79 σ' ∧ Fr [34] hp65 hp') ⟨⟨_, f82, ((o62).wide rfl)⟩, f88, Keep.refl _ _ _ _, Fr.refl _ _⟩ ?_) ?_
    ·clear h
     rintro ⟨w91, w92⟩ o σ97 hp98 _ h ⟨⟨a93, f94, o95⟩, f96, k99, r100⟩;have h : uF13b y71 w91 w92 = some o := h; unfold uF13b at h;have f104 := (k99 41 rfl).trans f86;have f105 := (k99 42 rfl).trans f87;refine e_reg (k_bin f96 f105 rfl (k_nil (wpE_seq (wpE_cond (p := (decide (w92 < ((List.length y71 : Int))))) rfl (fun g108 => ?_) (fun g108 => ?_)))))
     ·have h := ctrue h g108
      refine wpE_skip (wpE_seq (wpE_block (e_reg (k_mov f96 ?_))));obtain ⟨y109, e110, h⟩ := obind h;refine k_iadrL f104 (sv.any [] _ q78) f96 e110 rfl fun p111 c112 q113 h114 => ?_;obtain rfl : c112 = [IV.int .i64 y109] := h114;refine k_loadL rfl q113 rfl (k_mov rfl (k_mov rfl (k_nil (e_last (k_mov f94 (k_mov rfl ?_))))));obtain ⟨y115, e116, h⟩ := obind h;refine k_iadrL rfl o95.any rfl e116 rfl fun p117 c118 q119 h120 => ?_;obtain rfl : c118 = [IV.int .i64 y115] := h120;refine k_loadL rfl q119 rfl (k_mov rfl (k_bin rfl rfl rfl ?_));obtain ⟨y121, e122, h⟩ := obind h;refine k_iadrO (sz := 1) rfl o95 rfl (idx_in e122) rfl fun p123 q124 => ?_;refine k_storeO (ws := [IV.int .i64 ((IntKind.wrap .i64 (y115 + y109)))]) (o := 0) (sz := 1) (u' := (IntKind.wrap .i64 (y115 + y109))) rfl q124 rfl rfl rfl e122 (by decide) rfl (fun _ hc => stoAll hc rfl) fun hp125 k126 r127 => ?_;obtain ⟨l128, e129, h⟩ := bnd_e h;have o130 := e129 ▸ k126;have r132 : Fr [34] hp65 hp125 := Fr.ext r100 r127 rfl;refine k_nil (e_last (k_bin f96 rfl rfl (k_mov rfl (k_nil ?_))));cases h
      exact ⟨rfl, ⟨_, f94, ((o130).wide rfl)⟩, rfl, (by repeat (first | exact k99 | refine Keep.upd ?_ rfl _)), r132⟩
     ·have h := cfalse h g108
      refine wpE_exit ?_;cases h
      exact ⟨by decide, rfl, ⟨_, f94, ((o95).wide rfl)⟩, (by repeat (first | exact k99 | refine Keep.upd ?_ rfl _)), r100⟩
    rintro _ σ136 hp137 _ ⟨rfl, ⟨a140, f141, o142⟩, k138, r139⟩;have f145 := (k138 37 rfl).trans f85;have k146 : Keep [10, 11, 12] 37 56 σ50 σ136 := Keep.trans k81 (Keep.sub k138 rfl);have r147 : Fr [34] hp47 hp137 := Fr.ext r67 r139 rfl;refine e_last (k_bin f145 rfl rfl (k_mov rfl (k_nil ?_)));cases h
    exact ⟨rfl, ⟨_, f141, ((o142).wide rfl)⟩, rfl, (by repeat (first | exact k146 | refine Keep.upd ?_ rfl _)), r147⟩
   ·have h := cfalse h g70
    refine wpE_exit ?_;cases h
    exact ⟨by decide, rfl, ⟨_, f61, ((o62).wide rfl)⟩, (by repeat (first | exact k66 | refine Keep.upd ?_ rfl _)), r67⟩
  rintro _ σ149 hp150 _ ⟨rfl, ⟨a153, f154, o155⟩, k151, r152⟩;refine wpE_seq (e_reg (k_mov f154 (k_len rfl o155.any (k_mov rfl (k_nil (wpE_block (gE fun σ156 e157 => ?_)))))));have f158 := (congrFun e157 8).trans f154;have f159 : σ156 58 = V (.int .i64 ((List.length y148 : Int))) := (congrFun e157 58).trans rfl;have f160 : σ156 59 = V (.int .i64 ((0 : Int))) := (congrFun e157 59).trans rfl;obtain ⟨y197, h162, h⟩ := obind h;refine wpE_mono (e_loop h162 (I := fun s σ' hp' _ => (∃ a, σ' 8 = .v (.c a) ∧ so [34] (Rep.int .i64) true hp' a s.1) ∧ σ' 59 = V (.int .i64 s.2) ∧ Keep [13] 59 70 σ156 σ' ∧ Fr [34] hp150 hp') (X := fun e ex σ' hp' _ => ex = .exit 6 ∧ (∃ a, σ' 8 = .v (.c a) ∧ so [34] (Rep.int .i64) true hp' a e) ∧ Keep [13] 59 70 σ156 σ' ∧ Fr [34] hp150 hp') ⟨⟨_, f158, ((o155).wide rfl)⟩, f160, Keep.refl _ _ _ _, Fr.refl _ _⟩ ?_) ?_
  ·clear h
   rintro ⟨w163, w164⟩ o σ169 hp170 _ h ⟨⟨a165, f166, o167⟩, f168, k171, r172⟩;have h : uF13c y148 w163 w164 = some o := h; unfold uF13c at h;have f173 := (k171 58 rfl).trans f159;refine e_reg (k_bin f168 f173 rfl (k_nil (wpE_seq (wpE_cond (p := (decide (w164 < ((List.length y148 : Int))))) rfl (fun g174 => ?_) (fun g174 => ?_)))))
   ·have h := ctrue h g174
    refine wpE_skip (wpE_seq (wpE_block (e_reg (k_mov f168 (k_mov rfl (k_nil (e_last (k_mov f166 (k_mov rfl ?_)))))))));refine k_mov f166 (k_mov rfl ?_);obtain ⟨y175, e176, h⟩ := obind h;refine k_iadrL rfl o167.any rfl e176 rfl fun p177 c178 q179 h180 => ?_;obtain rfl : c178 = [IV.int .i64 y175] := h180;refine k_loadL rfl q179 rfl ?_;obtain ⟨y181, e182, h⟩ := obind h;refine k_call (.cons rfl rfl .nil) (s69  e182) (.inl rfl) ?_;rintro _ rfl;obtain ⟨y184, e185, h⟩ := obind h;refine k_iadrO (sz := 1) rfl o167 rfl (idx_in e185) rfl fun p186 q187 => ?_;refine k_storeO (ws := [IV.int .i64 y181]) (o := 0) (sz := 1) (u' := y181) rfl q187 rfl rfl rfl e185 (by decide) rfl (fun _ hc => stoAll hc rfl) fun hp188 k189 r190 => ?_;obtain ⟨l191, e192, h⟩ := bnd_e h;have o193 := e192 ▸ k189;have r194 : Fr [34] hp150 hp188 := Fr.ext r172 r190 rfl;refine k_nil (e_last (k_bin f168 rfl rfl (k_mov rfl (k_nil ?_))));cases h
    exact ⟨rfl, ⟨_, f166, ((o193).wide rfl)⟩, rfl, (by repeat (first | exact k171 | refine Keep.upd ?_ rfl _)), r194⟩
   ·have h := cfalse h g174
    refine wpE_exit ?_;cases h
    exact ⟨by decide, rfl, ⟨_, f166, ((o167).wide rfl)⟩, (by repeat (first | exact k171 | refine Keep.upd ?_ rfl _)), r172⟩
  rintro _ σ198 hp199 _ ⟨rfl, ⟨a202, f203, o204⟩, k200, r201⟩;refine e_reg (k_mov f203 (k_mov rfl (k_mov rfl (k_nil (wpE_ret ?_)))));obtain ⟨v205, q206, q207⟩ := (o204.any).back lent hl [] rfl;cases h
  exact e_ret (ct := 0) (.tmp rfl (back_c q206) (.tmp rfl (back_sc rfl) .nil)) ⟨v205, rfl, q207⟩
theorem o13 {x0 : List (List Int)} {vx0 : IV} {r : List Int × Int} (hx0 : sv (Rep.list (Rep.int .i64)) false vx0 x0) (h : uF13d x0 = some r) : ownC L 13 [.c (I vx0)] [] (O13 r) := by
 refine fn_own0 (fn := ir13) rfl (nlt rfl) ?_;unfold uF13d at h;refine e_reg (k_mov rfl (k_mov rfl (k_nil (wpE_seq (e_reg (k_mov rfl (k_len rfl (sv.any [] _ hx0) (k_bin rfl rfl rfl (k_nil ?_)))))))));refine wpE_cond (p := (decide (((List.length x0 : Int)) > ((20 : Int))))) rfl (fun g1 => ?_) (fun g1 => ?_)
 ·have h := ctrue h g1
  refine e_reg (k_mov rfl (k_mov rfl (k_nil (wpE_ret ?_))));cases h
  exact e_own (ct := 0) (.tmp rfl (.tmp rfl .nil)) ⟨_, rfl, (so_nil _ _ _ _)⟩
 ·have h := cfalse h g1
  refine wpE_skip (e_reg (k_mov rfl (k_nil (wpE_seq (e_reg (k_mov rfl (k_len rfl (sv.any [] _ hx0) (k_mov rfl (k_nil ?_)))))))));refine wpE_block (gE fun σ2 e3 => ?_);have f4 : σ2 0 = .v (.c ((I vx0))) := (congrFun e3 0).trans rfl;have f5 : σ2 4 = V (.int .i64 ((0 : Int))) := (congrFun e3 4).trans rfl;have f6 : σ2 17 = .v (.c ((I vx0))) := (congrFun e3 17).trans rfl;have f7 : σ2 18 = V (.int .i64 ((List.length x0 : Int))) := (congrFun e3 18).trans rfl;have f8 : σ2 19 = V (.int .i64 ((0 : Int))) := (congrFun e3 19).trans rfl;obtain ⟨e9, h10, h⟩ := lret_e h;refine wpE_mono (e_loop h10 (I := fun s σ' hp' _ => σ' 4 = V (.int .i64 s.1) ∧ σ' 19 = V (.int .i64 s.2) ∧ Keep [2, 3, 4, 6, 7] 19 32 σ2 σ' ∧ [] = hp') (X := fun e ex σ' hp' _ => match e with | .inl e => ex = .exit 0 ∧ σ' 4 = V (.int .i64 e) ∧ Keep [2, 3, 4, 6, 7] 19 32 σ2 σ' ∧ [] = hp' | .inr r => ex = .ret ∧ ∀ ct, atEnd 72 [Res.tmp 2, Res.tmp 3] ((O13 r)) .ret σ' hp' ct) ⟨f5, f8, Keep.refl _ _ _ _, rfl⟩ ?_) ?_
  ·clear h
   rintro ⟨w11, w12⟩ o σ15 _ _ h ⟨f13, f14, k17, rfl⟩;have h : uF13 x0 w11 w12 = some o := h; unfold uF13 at h;have f20 := (k17 17 rfl).trans f6;have f21 := (k17 18 rfl).trans f7;refine e_reg (k_bin f14 f21 rfl (k_nil (wpE_seq (wpE_cond (p := (decide (w12 < ((List.length x0 : Int))))) rfl (fun g22 => ?_) (fun g22 => ?_)))))
   ·have h := ctrue h g22
    refine wpE_skip (wpE_seq (wpE_block (e_reg ?_)));obtain ⟨y23, e24, h⟩ := obind h;refine k_iadrL f20 (sv.any [] _ hx0) f14 e24 rfl fun p25 c26 q27 h28 => ?_;obtain ⟨v29, rfl, q30⟩ := h28;refine k_loadL rfl q27 rfl (k_mov rfl (k_nil (wpE_seq (e_reg (k_mov rfl ?_)))));obtain ⟨y31, e32, h⟩ := obind h;refine k_call (.cons rfl rfl .nil) (s68 (sv_retag q30) e32) (.inl rfl) ?_;rintro _ rfl;refine k_mov rfl (k_nil (e_reg (k_mov rfl (k_bin rfl rfl rfl (k_nil (wpE_cond (p := (y31 != ((0 : Int)))) rfl (fun g34 => ?_) (fun g34 => ?_)))))))
    ·have h := ctrue h g34
     refine e_reg (k_mov rfl (k_mov rfl (k_mov rfl (k_nil (wpE_ret ?_)))));cases h
     exact ⟨by decide, rfl, fun _ => e_own (ct := 0) (.tmp rfl (.tmp rfl .nil)) ⟨_, rfl, (so_nil _ _ _ _)⟩⟩
    ·have h := cfalse h g34
     refine wpE_skip (e_last (k_mov f13 (k_mov rfl (k_len rfl (sv.any [] _ q30) (k_mx2 rfl rfl (k_mov rfl ?_))))));obtain ⟨u35, e36, h⟩ := bnd_e h;refine k_nil (e_last (k_bin f14 rfl rfl (k_mov rfl (k_nil ?_))));cases h
     exact ⟨rfl, (cgI e36), rfl, (by repeat (first | exact k17 | refine Keep.upd ?_ rfl _)), rfl⟩
   ·have h := cfalse h g22
    refine wpE_exit ?_;cases h
    exact ⟨by decide, rfl, f13, (by repeat (first | exact k17 | refine Keep.upd ?_ rfl _)), rfl⟩
  rcases e9 with y37 | r1;rotate_left
  ·rintro _ _ _ _ ⟨rfl, hX⟩
   cases h
   exact hX 0
  rintro _ σ38 _ _ ⟨rfl, f42, k40, rfl⟩;have f43 := (k40 0 rfl).trans f4;refine e_reg (k_mov f42 ?_);obtain ⟨y44, e45, h⟩ := obind h;refine k_mksl (E := (Rep.int .i64)) (f := true) rfl rfl e45 (rfl) rfl fun a46 hp47 o48 r49 => ?_;refine k_mov rfl (k_nil (wpE_seq (e_reg (k_mov f43 (k_len rfl (sv.any [] _ hx0) (k_mov rfl (k_nil (wpE_block (gE fun σ50 e51 => ?_)))))))));have f52 : σ50 8 = .v (.c a46) := (congrFun e51 8).trans rfl;have f53 : σ50 35 = .v (.c ((I vx0))) := (congrFun e51 35).trans rfl;have f54 : σ50 36 = V (.int .i64 ((List.length x0 : Int))) := (congrFun e51 36).trans rfl;have f55 : σ50 37 = V (.int .i64 ((0 : Int))) := (congrFun e51 37).trans rfl;obtain ⟨y148, h57, h⟩ := obind h;refine wpE_mono (e_loop h57 (I := fun s σ' hp' _ => (∃ a, σ' 8 = .v (.c a) ∧ so [34] (Rep.int .i64) true hp' a s.1) ∧ σ' 37 = V (.int .i64 s.2) ∧ Keep [10, 11, 12] 37 56 σ50 σ' ∧ Fr [34] hp47 hp') (X := fun e ex σ' hp' _ => ex = .exit 2 ∧ (∃ a, σ' 8 = .v (.c a) ∧ so [34] (Rep.int .i64) true hp' a e) ∧ Keep [10, 11, 12] 37 56 σ50 σ' ∧ Fr [34] hp47 hp') ⟨⟨_, f52, ((o48).wide rfl)⟩, f55, Keep.refl _ _ _ _, Fr.refl _ _⟩ ?_) ?_
  ·clear h
   rintro ⟨w58, w59⟩ o σ64 hp65 _ h ⟨⟨a60, f61, o62⟩, f63, k66, r67⟩;have h : uF13a x0 w58 w59 = some o := h; unfold uF13a at h;have f68 := (k66 35 rfl).trans f53;have f69 := (k66 36 rfl).trans f54;refine e_reg (k_bin f63 f69 rfl (k_nil (wpE_seq (wpE_cond (p := (decide (w59 < ((List.length x0 : Int))))) rfl (fun g70 => ?_) (fun g70 => ?_)))))
   ·have h := ctrue h g70
    refine wpE_skip (wpE_seq (wpE_block (e_reg ?_)));obtain ⟨y71, e72, h⟩ := obind h;refine k_iadrL f68 (sv.any [] _ hx0) f63 e72 rfl fun p73 c74 q75 h76 => ?_;obtain ⟨v77, rfl, q78⟩ := h76;refine k_loadL rfl q75 rfl (k_mov rfl (k_nil (e_reg (k_mov rfl (k_len rfl (sv.any [] _ q78) (k_mov rfl (k_nil (wpE_block (gE fun σ79 e80 => ?_)))))))));have k81 : Keep [10, 11, 12] 37 56 σ50 σ79 := by rw [e80]; repeat (first | exact k66 | refine Keep.upd ?_ rfl _)
    have f82 := (congrFun e80 8).trans f61;have f85 := (congrFun e80 37).trans f63;have f86 : σ79 41 = .v (.c ((I v77))) := (congrFun e80 41).trans rfl;have f87 : σ79 42 = V (.int .i64 ((List.length y71 : Int))) := (congrFun e80 42).trans rfl;have f88 : σ79 43 = V (.int .i64 ((0 : Int))) := (congrFun e80 43).trans rfl;obtain ⟨y135, h90, h⟩ := obind h;refine wpE_mono (e_loop h90 (I := fun s σ' hp' _ => (∃ a, σ' 8 = .v (.c a) ∧ so [34] (Rep.int .i64) true hp' a s.1) ∧ σ' 43 = V (.int .i64 s.2) ∧ Keep [11, 12] 43 55 σ79 σ' ∧ Fr [34] hp65 hp') (X := fun e ex σ' hp' _ => ex = .exit 4 ∧ (∃ a, σ' 8 = .v (.c a) ∧ so [34] (Rep.int .i64) true hp' a e) ∧ Keep [11, 12] 43 55 σ79 σ' ∧ Fr [34] hp65 hp') ⟨⟨_, f82, ((o62).wide rfl)⟩, f88, Keep.refl _ _ _ _, Fr.refl _ _⟩ ?_) ?_
    ·clear h
     rintro ⟨w91, w92⟩ o σ97 hp98 _ h ⟨⟨a93, f94, o95⟩, f96, k99, r100⟩;have h : uF13b y71 w91 w92 = some o := h; unfold uF13b at h;have f104 := (k99 41 rfl).trans f86;have f105 := (k99 42 rfl).trans f87;refine e_reg (k_bin f96 f105 rfl (k_nil (wpE_seq (wpE_cond (p := (decide (w92 < ((List.length y71 : Int))))) rfl (fun g108 => ?_) (fun g108 => ?_)))))
     ·have h := ctrue h g108
      refine wpE_skip (wpE_seq (wpE_block (e_reg (k_mov f96 ?_))));obtain ⟨y109, e110, h⟩ := obind h;refine k_iadrL f104 (sv.any [] _ q78) f96 e110 rfl fun p111 c112 q113 h114 => ?_;obtain rfl : c112 = [IV.int .i64 y109] := h114;refine k_loadL rfl q113 rfl (k_mov rfl (k_mov rfl (k_nil (e_last (k_mov f94 (k_mov rfl ?_))))));obtain ⟨y115, e116, h⟩ := obind h;refine k_iadrL rfl o95.any rfl e116 rfl fun p117 c118 q119 h120 => ?_;obtain rfl : c118 = [IV.int .i64 y115] := h120;refine k_loadL rfl q119 rfl (k_mov rfl (k_bin rfl rfl rfl ?_));obtain ⟨y121, e122, h⟩ := obind h;refine k_iadrO (sz := 1) rfl o95 rfl (idx_in e122) rfl fun p123 q124 => ?_;refine k_storeO (ws := [IV.int .i64 ((IntKind.wrap .i64 (y115 + y109)))]) (o := 0) (sz := 1) (u' := (IntKind.wrap .i64 (y115 + y109))) rfl q124 rfl rfl rfl e122 (by decide) rfl (fun _ hc => stoAll hc rfl) fun hp125 k126 r127 => ?_;obtain ⟨l128, e129, h⟩ := bnd_e h;have o130 := e129 ▸ k126;have r132 : Fr [34] hp65 hp125 := Fr.ext r100 r127 rfl;refine k_nil (e_last (k_bin f96 rfl rfl (k_mov rfl (k_nil ?_))));cases h
      exact ⟨rfl, ⟨_, f94, ((o130).wide rfl)⟩, rfl, (by repeat (first | exact k99 | refine Keep.upd ?_ rfl _)), r132⟩
     ·have h := cfalse h g108
      refine wpE_exit ?_;cases h
      exact ⟨by decide, rfl, ⟨_, f94, ((o95).wide rfl)⟩, (by repeat (first | exact k99 | refine Keep.upd ?_ rfl _)), r100⟩
    rintro _ σ136 hp137 _ ⟨rfl, ⟨a140, f141, o142⟩, k138, r139⟩;have f145 := (k138 37 rfl).trans f85;have k146 : Keep [10, 11, 12] 37 56 σ50 σ136 := Keep.trans k81 (Keep.sub k138 rfl);have r147 : Fr [34] hp47 hp137 := Fr.ext r67 r139 rfl;refine e_last (k_bin f145 rfl rfl (k_mov rfl (k_nil ?_)));cases h
    exact ⟨rfl, ⟨_, f141, ((o142).wide rfl)⟩, rfl, (by repeat (first | exact k146 | refine Keep.upd ?_ rfl _)), r147⟩
   ·have h := cfalse h g70
    refine wpE_exit ?_;cases h
    exact ⟨by decide, rfl, ⟨_, f61, ((o62).wide rfl)⟩, (by repeat (first | exact k66 | refine Keep.upd ?_ rfl _)), r67⟩
  rintro _ σ149 hp150 _ ⟨rfl, ⟨a153, f154, o155⟩, k151, r152⟩;refine wpE_seq (e_reg (k_mov f154 (k_len rfl o155.any (k_mov rfl (k_nil (wpE_block (gE fun σ156 e157 => ?_)))))));have f158 := (congrFun e157 8).trans f154;have f159 : σ156 58 = V (.int .i64 ((List.length y148 : Int))) := (congrFun e157 58).trans rfl;have f160 : σ156 59 = V (.int .i64 ((0 : Int))) := (congrFun e157 59).trans rfl;obtain ⟨y197, h162, h⟩ := obind h;refine wpE_mono (e_loop h162 (I := fun s σ' hp' _ => (∃ a, σ' 8 = .v (.c a) ∧ so [34] (Rep.int .i64) true hp' a s.1) ∧ σ' 59 = V (.int .i64 s.2) ∧ Keep [13] 59 70 σ156 σ' ∧ Fr [34] hp150 hp') (X := fun e ex σ' hp' _ => ex = .exit 6 ∧ (∃ a, σ' 8 = .v (.c a) ∧ so [34] (Rep.int .i64) true hp' a e) ∧ Keep [13] 59 70 σ156 σ' ∧ Fr [34] hp150 hp') ⟨⟨_, f158, ((o155).wide rfl)⟩, f160, Keep.refl _ _ _ _, Fr.refl _ _⟩ ?_) ?_
  ·clear h
   rintro ⟨w163, w164⟩ o σ169 hp170 _ h ⟨⟨a165, f166, o167⟩, f168, k171, r172⟩;have h : uF13c y148 w163 w164 = some o := h; unfold uF13c at h;have f173 := (k171 58 rfl).trans f159;refine e_reg (k_bin f168 f173 rfl (k_nil (wpE_seq (wpE_cond (p := (decide (w164 < ((List.length y148 : Int))))) rfl (fun g174 => ?_) (fun g174 => ?_)))))
   ·have h := ctrue h g174
    refine wpE_skip (wpE_seq (wpE_block (e_reg (k_mov f168 (k_mov rfl (k_nil (e_last (k_mov f166 (k_mov rfl ?_)))))))));refine k_mov f166 (k_mov rfl ?_);obtain ⟨y175, e176, h⟩ := obind h;refine k_iadrL rfl o167.any rfl e176 rfl fun p177 c178 q179 h180 => ?_;obtain rfl : c178 = [IV.int .i64 y175] := h180;refine k_loadL rfl q179 rfl ?_;obtain ⟨y181, e182, h⟩ := obind h;refine k_call (.cons rfl rfl .nil) (s69  e182) (.inl rfl) ?_;rintro _ rfl;obtain ⟨y184, e185, h⟩ := obind h;refine k_iadrO (sz := 1) rfl o167 rfl (idx_in e185) rfl fun p186 q187 => ?_;refine k_storeO (ws := [IV.int .i64 y181]) (o := 0) (sz := 1) (u' := y181) rfl q187 rfl rfl rfl e185 (by decide) rfl (fun _ hc => stoAll hc rfl) fun hp188 k189 r190 => ?_;obtain ⟨l191, e192, h⟩ := bnd_e h;have o193 := e192 ▸ k189;have r194 : Fr [34] hp150 hp188 := Fr.ext r172 r190 rfl;refine k_nil (e_last (k_bin f168 rfl rfl (k_mov rfl (k_nil ?_))));cases h
    exact ⟨rfl, ⟨_, f166, ((o193).wide rfl)⟩, rfl, (by repeat (first | exact k171 | refine Keep.upd ?_ rfl _)), r194⟩
   ·have h := cfalse h g174
    refine wpE_exit ?_;cases h
    exact ⟨by decide, rfl, ⟨_, f166, ((o167).wide rfl)⟩, (by repeat (first | exact k171 | refine Keep.upd ?_ rfl _)), r172⟩
  rintro _ σ198 hp199 _ ⟨rfl, ⟨a202, f203, o204⟩, k200, r201⟩;refine e_reg (k_mov f203 (k_mov rfl (k_mov rfl (k_nil (wpE_ret ?_)))));cases h
  exact e_own (ct := 0) (.tmp rfl (.tmp rfl .nil)) ⟨_, rfl, (o204.wide rfl)⟩
theorem g14 {x0 : List Int} {a0 : AC} {bs : List Blk} {r : List Int} (h0 : so [PB] (Rep.int .i64) true (heap0 bs) a0 x0) (h : uF14 x0 = some r) : ownC L 14 [.c a0] bs (O14 a0 r) := by
 refine fn_givenS (fn := ir14) rfl (nlt rfl) fun hp0 k0 => ?_;rw [← k0] at h0;unfold uF14 at h;refine e_reg (k_mov rfl (k_nil (e_reg (k_mov rfl (k_len rfl h0.any (k_mov rfl (k_nil (wpE_block (gE fun σ1 e2 => ?_)))))))));have f3 : σ1 0 = .v (.c a0) := (congrFun e2 0).trans rfl;have f4 : σ1 2 = V (.int .i64 ((0 : Int))) := (congrFun e2 2).trans rfl;have f5 : σ1 5 = V (.int .i64 ((List.length x0 : Int))) := (congrFun e2 5).trans rfl;have f6 : σ1 6 = V (.int .i64 ((0 : Int))) := (congrFun e2 6).trans rfl;obtain ⟨y34, h8, h⟩ := obind h;refine wpE_mono (e_loop h8 (I := fun s σ' hp' _ => (σ' 0 = .v (.c a0) ∧ so [1000000] (Rep.int .i64) true hp' a0 s.1) ∧ σ' 6 = V (.int .i64 s.2) ∧ Keep [3] 6 13 σ1 σ' ∧ Fr [1000000] hp0 hp') (X := fun e ex σ' hp' _ => ex = .exit 0 ∧ (σ' 0 = .v (.c a0) ∧ so [1000000] (Rep.int .i64) true hp' a0 e) ∧ Keep [3] 6 13 σ1 σ' ∧ Fr [1000000] hp0 hp') ⟨⟨f3, ((h0).wide rfl)⟩, f6, Keep.refl _ _ _ _, Fr.refl _ _⟩ ?_) ?_
 ·clear h
  rintro ⟨w9, w10⟩ o σ14 hp15 _ h ⟨⟨f11, o12⟩, f13, k16, r17⟩;have h : uF14a x0 w9 w10 = some o := h; unfold uF14a at h;have f18 := (k16 2 rfl).trans f4;have f19 := (k16 5 rfl).trans f5;refine e_reg (k_bin f13 f19 rfl (k_nil (wpE_seq (wpE_cond (p := (decide (w10 < ((List.length x0 : Int))))) rfl (fun g20 => ?_) (fun g20 => ?_)))))
  ·have h := ctrue h g20
   refine wpE_skip (wpE_seq (wpE_block (e_reg (k_mov f13 (k_mov rfl (k_nil (e_last (k_mov f11 (k_mov rfl ?_)))))))));refine k_mov f18 ?_;obtain ⟨y21, e22, h⟩ := obind h;refine k_iadrO (sz := 1) rfl o12 rfl (idx_in e22) rfl fun p23 q24 => ?_;refine k_storeO (ws := [IV.int .i64 ((0 : Int))]) (o := 0) (sz := 1) (u' := (0 : Int)) rfl q24 rfl rfl rfl e22 (by decide) rfl (fun _ hc => stoAll hc rfl) fun hp25 k26 r27 => ?_;obtain ⟨l28, e29, h⟩ := bnd_e h;have o30 := e29 ▸ k26;have r31 : Fr [1000000] hp0 hp25 := Fr.ext r17 r27 rfl;refine k_nil (e_last (k_bin f13 rfl rfl (k_mov rfl (k_nil ?_))));cases h
   exact ⟨rfl, ⟨f11, ((o30).wide rfl)⟩, rfl, (by repeat (first | exact k16 | refine Keep.upd ?_ rfl _)), r31⟩
  ·have h := cfalse h g20
   refine wpE_exit ?_;cases h
   exact ⟨by decide, rfl, ⟨f11, ((o12).wide rfl)⟩, (by repeat (first | exact k16 | refine Keep.upd ?_ rfl _)), r17⟩
 rintro _ σ35 hp36 _ ⟨rfl, ⟨f39, o40⟩, k37, r38⟩;cases h
 exact e_ownN (ct := 0) .nil ⟨rfl, o40⟩
theorem s15 {x0 : List Int} {vx0 : IV} {x1 : Int} {r : List Int × Int} (hx0 : sv (Rep.int .i64) false vx0 x0) (h : uF15 x0 x1 = some r) : pc L 15 [.c (I vx0), .c (I (.int .i64 x1))] true (P15 r) := by
 refine fn_pure (fn := ir15) rfl (nlt rfl) fun lent hl => ?_;unfold uF15 at h;refine e_reg (k_mov rfl (k_mov rfl (k_nil (wpE_seq (e_reg (k_mov rfl ?_))))));obtain ⟨y1, e2, h⟩ := obind h;refine k_call (.cons rfl rfl .nil) (s68 (sv_retag hx0) e2) (.inl rfl) ?_;rintro _ rfl;refine k_mov rfl (k_nil (e_reg (k_mov rfl (k_bin rfl rfl rfl (k_nil (wpE_cond (p := (y1 != ((0 : Int)))) rfl (fun g4 => ?_) (fun g4 => ?_)))))))
 ·have h := ctrue h g4
  refine e_reg (k_mov rfl (k_mov rfl (k_mov rfl (k_nil (wpE_ret ?_)))));cases h
  exact e_ret (ct := 0) (.tmp rfl (back_c (backC_inl fun _ => sv_fresh (sv_nil (Rep.int .i64) true))) (.tmp rfl (back_sc rfl) .nil)) ⟨IV.nilS, rfl, (sv_nil (Rep.int .i64) true)⟩
 ·have h := cfalse h g4
  refine wpE_skip (wpE_seq (e_reg (k_mov rfl ?_)));obtain ⟨y5, e6, h⟩ := obind h;refine k_call (.cons rfl rfl (.cons rfl rfl (.cons rfl rfl .nil))) (s70  e6) (.inl rfl) ?_;rintro _ rfl;refine k_not rfl (k_nil (wpE_cond (p := (!y5)) rfl (fun g8 => ?_) (fun g8 => ?_)))
  ·have h := ctrue h g8
   refine e_reg (k_mov rfl (k_mov rfl (k_nil (wpE_ret ?_))));cases h
   exact e_ret (ct := 0) (.tmp rfl (back_c (backC_inl fun _ => sv_fresh (sv_nil (Rep.int .i64) true))) (.tmp rfl (back_sc rfl) .nil)) ⟨IV.nilS, rfl, (sv_nil (Rep.int .i64) true)⟩
  ·have h := cfalse h g8
   refine wpE_skip (e_reg (k_mov rfl (k_len rfl (sv.any [] _ hx0) ?_)));obtain ⟨y9, e10, h⟩ := obind h;refine k_mksl (E := (Rep.int .i64)) (f := true) rfl rfl e10 (rfl) rfl fun a11 hp12 o13 r14 => ?_;refine k_mov rfl (k_nil (wpE_seq (e_reg (k_mov rfl (k_len rfl (sv.any [] _ hx0) (k_mov rfl (k_nil (wpE_block (gE fun σ15 e16 => ?_)))))))));have f17 : σ15 1 = V (.int .i64 x1) := (congrFun e16 1).trans rfl;have f18 : σ15 7 = .v (.c a11) := (congrFun e16 7).trans rfl;have f19 : σ15 21 = .v (.c ((I vx0))) := (congrFun e16 21).trans rfl;have f20 : σ15 22 = V (.int .i64 ((List.length x0 : Int))) := (congrFun e16 22).trans rfl;have f21 : σ15 23 = V (.int .i64 ((0 : Int))) := (congrFun e16 23).trans rfl;obtain ⟨y60, h23, h⟩ := obind h;refine wpE_mono (e_loop h23 (I := fun s σ' hp' _ => (∃ a, σ' 7 = .v (.c a) ∧ so [20] (Rep.int .i64) true hp' a s.1) ∧ σ' 23 = V (.int .i64 s.2) ∧ Keep [8, 9] 23 36 σ15 σ' ∧ Fr [20] hp12 hp') (X := fun e ex σ' hp' _ => ex = .exit 0 ∧ (∃ a, σ' 7 = .v (.c a) ∧ so [20] (Rep.int .i64) true hp' a e) ∧ Keep [8, 9] 23 36 σ15 σ' ∧ Fr [20] hp12 hp') ⟨⟨_, f18, ((o13).wide rfl)⟩, f21, Keep.refl _ _ _ _, Fr.refl _ _⟩ ?_) ?_
   ·clear h
    rintro ⟨w24, w25⟩ o σ30 hp31 _ h ⟨⟨a26, f27, o28⟩, f29, k32, r33⟩;have h : uF15a x0 x1 w24 w25 = some o := h; unfold uF15a at h;have f34 := (k32 1 rfl).trans f17;have f35 := (k32 21 rfl).trans f19;have f36 := (k32 22 rfl).trans f20;refine e_reg (k_bin f29 f36 rfl (k_nil (wpE_seq (wpE_cond (p := (decide (w25 < ((List.length x0 : Int))))) rfl (fun g37 => ?_) (fun g37 => ?_)))))
    ·have h := ctrue h g37
     refine wpE_skip (wpE_seq (wpE_block (e_reg (k_mov f29 ?_))));obtain ⟨y38, e39, h⟩ := obind h;refine k_iadrL f35 (sv.any [] _ hx0) f29 e39 rfl fun p40 c41 q42 h43 => ?_;obtain rfl : c41 = [IV.int .i64 y38] := h43;refine k_loadL rfl q42 rfl (k_mov rfl (k_mov rfl (k_nil (e_last (k_mov f27 (k_mov rfl (k_mov rfl (k_mov f34 (k_bin rfl rfl rfl ?_)))))))));refine k_bin rfl rfl rfl ?_;obtain ⟨y44, e45, h⟩ := obind h;refine k_call (.cons rfl rfl .nil) (s69  e45) (.inl rfl) ?_;rintro _ rfl;obtain ⟨y47, e48, h⟩ := obind h;refine k_iadrO (sz := 1) rfl o28 rfl (idx_in e48) rfl fun p49 q50 => ?_;refine k_storeO (ws := [IV.int .i64 y44]) (o := 0) (sz := 1) (u' := y44) rfl q50 rfl rfl rfl e48 (by decide) rfl (fun _ hc => stoAll hc rfl) fun hp51 k52 r53 => ?_;obtain ⟨l54, e55, h⟩ := bnd_e h;have o56 := e55 ▸ k52;have r57 : Fr [20] hp12 hp51 := Fr.ext r33 r53 rfl;refine k_nil (e_last (k_bin f29 rfl rfl (k_mov rfl (k_nil ?_))));cases h
     exact ⟨rfl, ⟨_, f27, ((o56).wide rfl)⟩, rfl, (by repeat (first | exact k32 | refine Keep.upd ?_ rfl _)), r57⟩
    ·have h := cfalse h g37
     refine wpE_exit ?_;cases h
     exact ⟨by decide, rfl, ⟨_, f27, ((o28).wide rfl)⟩, (by repeat (first | exact k32 | refine Keep.upd ?_ rfl _)), r33⟩
   rintro _ σ61 hp62 _ ⟨rfl, ⟨a65, f66, o67⟩, k63, r64⟩;refine e_reg (k_mov f66 (k_mov rfl (k_mov rfl (k_nil (wpE_ret ?_)))));obtain ⟨v68, q69, q70⟩ := (o67.any).back lent hl [] rfl;cases h
   exact e_ret (ct := 0) (.tmp rfl (back_c q69) (.tmp rfl (back_sc rfl) .nil)) ⟨v68, rfl, q70⟩
theorem o15 {x0 : List Int} {vx0 : IV} {x1 : Int} {r : List Int × Int} (hx0 : sv (Rep.int .i64) false vx0 x0) (h : uF15 x0 x1 = some r) : ownC L 15 [.c (I vx0), .c (I (.int .i64 x1))] [] (O15 r) := by
 refine fn_own0 (fn := ir15) rfl (nlt rfl) ?_;unfold uF15 at h;refine e_reg (k_mov rfl (k_mov rfl (k_nil (wpE_seq (e_reg (k_mov rfl ?_))))));obtain ⟨y1, e2, h⟩ := obind h;refine k_call (.cons rfl rfl .nil) (s68 (sv_retag hx0) e2) (.inl rfl) ?_;rintro _ rfl;refine k_mov rfl (k_nil (e_reg (k_mov rfl (k_bin rfl rfl rfl (k_nil (wpE_cond (p := (y1 != ((0 : Int)))) rfl (fun g4 => ?_) (fun g4 => ?_)))))))
 ·have h := ctrue h g4
  refine e_reg (k_mov rfl (k_mov rfl (k_mov rfl (k_nil (wpE_ret ?_)))));cases h
  exact e_own (ct := 0) (.tmp rfl (.tmp rfl .nil)) ⟨_, rfl, (so_nil _ _ _ _)⟩
 ·have h := cfalse h g4
  refine wpE_skip (wpE_seq (e_reg (k_mov rfl ?_)));obtain ⟨y5, e6, h⟩ := obind h;refine k_call (.cons rfl rfl (.cons rfl rfl (.cons rfl rfl .nil))) (s70  e6) (.inl rfl) ?_;rintro _ rfl;refine k_not rfl (k_nil (wpE_cond (p := (!y5)) rfl (fun g8 => ?_) (fun g8 => ?_)))
  ·have h := ctrue h g8
   refine e_reg (k_mov rfl (k_mov rfl (k_nil (wpE_ret ?_))));cases h
   exact e_own (ct := 0) (.tmp rfl (.tmp rfl .nil)) ⟨_, rfl, (so_nil _ _ _ _)⟩
  ·have h := cfalse h g8
   refine wpE_skip (e_reg (k_mov rfl (k_len rfl (sv.any [] _ hx0) ?_)));obtain ⟨y9, e10, h⟩ := obind h;refine k_mksl (E := (Rep.int .i64)) (f := true) rfl rfl e10 (rfl) rfl fun a11 hp12 o13 r14 => ?_;refine k_mov rfl (k_nil (wpE_seq (e_reg (k_mov rfl (k_len rfl (sv.any [] _ hx0) (k_mov rfl (k_nil (wpE_block (gE fun σ15 e16 => ?_)))))))));have f17 : σ15 1 = V (.int .i64 x1) := (congrFun e16 1).trans rfl;have f18 : σ15 7 = .v (.c a11) := (congrFun e16 7).trans rfl;have f19 : σ15 21 = .v (.c ((I vx0))) := (congrFun e16 21).trans rfl;have f20 : σ15 22 = V (.int .i64 ((List.length x0 : Int))) := (congrFun e16 22).trans rfl;have f21 : σ15 23 = V (.int .i64 ((0 : Int))) := (congrFun e16 23).trans rfl;obtain ⟨y60, h23, h⟩ := obind h;refine wpE_mono (e_loop h23 (I := fun s σ' hp' _ => (∃ a, σ' 7 = .v (.c a) ∧ so [20] (Rep.int .i64) true hp' a s.1) ∧ σ' 23 = V (.int .i64 s.2) ∧ Keep [8, 9] 23 36 σ15 σ' ∧ Fr [20] hp12 hp') (X := fun e ex σ' hp' _ => ex = .exit 0 ∧ (∃ a, σ' 7 = .v (.c a) ∧ so [20] (Rep.int .i64) true hp' a e) ∧ Keep [8, 9] 23 36 σ15 σ' ∧ Fr [20] hp12 hp') ⟨⟨_, f18, ((o13).wide rfl)⟩, f21, Keep.refl _ _ _ _, Fr.refl _ _⟩ ?_) ?_
   ·clear h
    rintro ⟨w24, w25⟩ o σ30 hp31 _ h ⟨⟨a26, f27, o28⟩, f29, k32, r33⟩;have h : uF15a x0 x1 w24 w25 = some o := h; unfold uF15a at h;have f34 := (k32 1 rfl).trans f17;have f35 := (k32 21 rfl).trans f19;have f36 := (k32 22 rfl).trans f20;refine e_reg (k_bin f29 f36 rfl (k_nil (wpE_seq (wpE_cond (p := (decide (w25 < ((List.length x0 : Int))))) rfl (fun g37 => ?_) (fun g37 => ?_)))))
    ·have h := ctrue h g37
     refine wpE_skip (wpE_seq (wpE_block (e_reg (k_mov f29 ?_))));obtain ⟨y38, e39, h⟩ := obind h;refine k_iadrL f35 (sv.any [] _ hx0) f29 e39 rfl fun p40 c41 q42 h43 => ?_;obtain rfl : c41 = [IV.int .i64 y38] := h43;refine k_loadL rfl q42 rfl (k_mov rfl (k_mov rfl (k_nil (e_last (k_mov f27 (k_mov rfl (k_mov rfl (k_mov f34 (k_bin rfl rfl rfl ?_)))))))));refine k_bin rfl rfl rfl ?_;obtain ⟨y44, e45, h⟩ := obind h;refine k_call (.cons rfl rfl .nil) (s69  e45) (.inl rfl) ?_;rintro _ rfl;obtain ⟨y47, e48, h⟩ := obind h;refine k_iadrO (sz := 1) rfl o28 rfl (idx_in e48) rfl fun p49 q50 => ?_;refine k_storeO (ws := [IV.int .i64 y44]) (o := 0) (sz := 1) (u' := y44) rfl q50 rfl rfl rfl e48 (by decide) rfl (fun _ hc => stoAll hc rfl) fun hp51 k52 r53 => ?_;obtain ⟨l54, e55, h⟩ := bnd_e h;have o56 := e55 ▸ k52;have r57 : Fr [20] hp12 hp51 := Fr.ext r33 r53 rfl;refine k_nil (e_last (k_bin f29 rfl rfl (k_mov rfl (k_nil ?_))));cases h
     exact ⟨rfl, ⟨_, f27, ((o56).wide rfl)⟩, rfl, (by repeat (first | exact k32 | refine Keep.upd ?_ rfl _)), r57⟩
    ·have h := cfalse h g37
     refine wpE_exit ?_;cases h
     exact ⟨by decide, rfl, ⟨_, f27, ((o28).wide rfl)⟩, (by repeat (first | exact k32 | refine Keep.upd ?_ rfl _)), r33⟩
   rintro _ σ61 hp62 _ ⟨rfl, ⟨a65, f66, o67⟩, k63, r64⟩;refine e_reg (k_mov f66 (k_mov rfl (k_mov rfl (k_nil (wpE_ret ?_)))));cases h
   exact e_own (ct := 0) (.tmp rfl (.tmp rfl .nil)) ⟨_, rfl, (o67.wide rfl)⟩
theorem s134 {x0 : Int} {r : Bool}  (h : uF134 x0 = some r) : pc L 134 [.c (I (.int .i64 x0))] true (P134 r) := by
 refine fn_pure (fn := ir134) rfl (nlt rfl) fun lent hl => ?_;unfold uF134 at h;refine e_reg (k_mov rfl (k_nil (e_reg (k_mov rfl (k_bin rfl rfl rfl (k_mov rfl (gL fun σ1 e2 => ?_)))))));have f3 : σ1 0 = V (.int .i64 x0) := (congrFun e2 0).trans rfl;have f4 : σ1 5 = V (.bool ((decide (x0 ≥ ((0 : Int)))))) := (congrFun e2 5).trans rfl;refine k_mid (fun σ' hp' _ => [] = hp' ∧ σ' 8 = V (.bool (((decide (x0 ≥ ((0 : Int)))) && (decide (x0 < ((345686400000 : Int))))))) ∧ Keep [] 6 8 σ1 σ') ?_ ?_
 ·rcases bt ((decide (x0 ≥ ((0 : Int))))) with g5 | g5
  ·refine k_yes (f4.trans (cgB g5)) ?_
   refine k_mov f3 (k_yes (f4.trans (cgB g5)) (k_bin rfl rfl rfl (k_pickT (f4.trans (cgB g5)) rfl ?_)));exact ⟨rfl, cgB (by rw [g5]; rfl), (by repeat (first | exact (Keep.refl _ _ _ _) | refine Keep.upd ?_ rfl _))⟩
  ·refine k_no (f4.trans (cgB g5)) rfl ?_
   refine k_no (f4.trans (cgB g5)) rfl (k_pickF (f4.trans (cgB g5)) rfl ?_);exact ⟨rfl, cgB (by rw [g5]; rfl), (by repeat (first | exact (Keep.refl _ _ _ _) | refine Keep.upd ?_ rfl _))⟩
 rintro σ6 _ _ ⟨rfl, f8, k7⟩;refine k_mov f8 ?_;obtain ⟨u9, e10, h⟩ := bnd_e h;refine k_nil (wpE_ret ?_);cases h
 exact e_ret (ct := 0) (.tmp (cgB e10) (back_sc rfl) .nil) rfl
theorem s135 {x0 : uT3} {cx0 : List IV} {r : Int} (hx0 : uR3.rp false cx0 x0) (h : uF135 x0 = some r) : pc L 135 [.agg (cx0.map I)] true (P135 r) := by
 refine fn_pure (fn := ir135) rfl (nlt rfl) fun lent hl => ?_;unfold uF135 at h;obtain ⟨v1, rfl, q2⟩ := uR3.inv hx0;refine e_reg (k_box rfl rfl fun g3 hp4 k5 r6 => ?_);refine k_mov rfl (k_nil (wpE_seq (wpE_block (e_reg (k_fadrB (o := 0) rfl k5 (k_loadB rfl k5 rfl ?_))))));obtain ⟨y7, e8, h⟩ := obind h;refine k_call (.cons rfl rfl (.cons rfl rfl (.cons rfl rfl .nil))) (s70  e8) (.inl rfl) ?_;rintro _ rfl;refine k_not rfl (k_mov rfl (gL fun σ10 e11 => ?_));have f12 : σ10 1 = .v (.c (.r (.ptr 1 g3 0))) := (congrFun e11 1).trans rfl;have f13 : σ10 8 = V (.bool (!y7)) := (congrFun e11 8).trans rfl;obtain ⟨y18, e19, h⟩ := obind h;refine k_mid (fun σ' hp' _ => hp4 = hp' ∧ σ' 13 = V (.bool y18) ∧ Keep [] 9 13 σ10 σ') ?_ ?_
 ·rcases bt (!y7) with g14 | g14
  ·have h := ctrue e19 g14
   refine k_no (f13.trans (cgB g14)) rfl (k_no (f13.trans (cgB g14)) rfl (k_no (f13.trans (cgB g14)) rfl (k_no (f13.trans (cgB g14)) rfl (k_pickT (f13.trans (cgB g14)) rfl ?_))));exact ⟨rfl, cgB (Option.some.inj h), (by repeat (first | exact (Keep.refl _ _ _ _) | refine Keep.upd ?_ rfl _))⟩
  ·have h := cfalse e19 g14
   refine k_yes (f13.trans (cgB g14)) (k_fadrB (o := 1) f12 k5 (k_yes (f13.trans (cgB g14)) (k_loadB rfl k5 rfl (k_yes (f13.trans (cgB g14)) ?_))));obtain ⟨y15, e16, h⟩ := obind h;refine k_call (.cons rfl rfl (.cons rfl rfl (.cons rfl rfl .nil))) (s70  e16) (.inl rfl) ?_;rintro _ rfl;refine k_yes (f13.trans (cgB g14)) (k_not rfl (k_pickF (f13.trans (cgB g14)) rfl ?_));exact ⟨rfl, cgB (Option.some.inj h), (by repeat (first | exact (Keep.refl _ _ _ _) | refine Keep.upd ?_ rfl _))⟩
 rintro σ20 _ _ ⟨rfl, f22, k21⟩;have f23 := (k21 1 rfl).trans f12;refine k_mov f22 (gL fun σ24 e25 => ?_);have f26 := (congrFun e25 1).trans f23;have f27 : σ24 14 = V (.bool y18) := (congrFun e25 14).trans rfl;obtain ⟨y32, e33, h⟩ := obind h;refine k_mid (fun σ' hp' _ => hp4 = hp' ∧ σ' 19 = V (.bool y32) ∧ Keep [] 15 19 σ24 σ') ?_ ?_
 ·rcases bt y18 with g28 | g28
  ·have h := ctrue e33 g28
   refine k_no (f27.trans (cgB g28)) rfl (k_no (f27.trans (cgB g28)) rfl (k_no (f27.trans (cgB g28)) rfl (k_no (f27.trans (cgB g28)) rfl (k_pickT (f27.trans (cgB g28)) rfl ?_))));exact ⟨rfl, cgB (Option.some.inj h), (by repeat (first | exact (Keep.refl _ _ _ _) | refine Keep.upd ?_ rfl _))⟩
  ·have h := cfalse e33 g28
   refine k_yes (f27.trans (cgB g28)) (k_fadrB (o := 2) f26 k5 (k_yes (f27.trans (cgB g28)) (k_loadB rfl k5 rfl (k_yes (f27.trans (cgB g28)) ?_))));obtain ⟨y29, e30, h⟩ := obind h;refine k_call (.cons rfl rfl (.cons rfl rfl (.cons rfl rfl .nil))) (s70  e30) (.inl rfl) ?_;rintro _ rfl;refine k_yes (f27.trans (cgB g28)) (k_not rfl (k_pickF (f27.trans (cgB g28)) rfl ?_));exact ⟨rfl, cgB (Option.some.inj h), (by repeat (first | exact (Keep.refl _ _ _ _) | refine Keep.upd ?_ rfl _))⟩
 rintro σ34 _ _ ⟨rfl, f36, k35⟩;have f37 := (k35 1 rfl).trans f26;refine k_mov f36 (gL fun σ38 e39 => ?_);have f40 := (congrFun e39 1).trans f37;have f41 : σ38 20 = V (.bool y32) := (congrFun e39 20).trans rfl;obtain ⟨y46, e47, h⟩ := obind h;refine k_mid (fun σ' hp' _ => hp4 = hp' ∧ σ' 25 = V (.bool y46) ∧ Keep [] 21 25 σ38 σ') ?_ ?_
 ·rcases bt y32 with g42 | g42
  ·have h := ctrue e47 g42
   refine k_no (f41.trans (cgB g42)) rfl (k_no (f41.trans (cgB g42)) rfl (k_no (f41.trans (cgB g42)) rfl (k_no (f41.trans (cgB g42)) rfl (k_pickT (f41.trans (cgB g42)) rfl ?_))));exact ⟨rfl, cgB (Option.some.inj h), (by repeat (first | exact (Keep.refl _ _ _ _) | refine Keep.upd ?_ rfl _))⟩
  ·have h := cfalse e47 g42
   refine k_yes (f41.trans (cgB g42)) (k_fadrB (o := 3) f40 k5 (k_yes (f41.trans (cgB g42)) (k_loadB rfl k5 rfl (k_yes (f41.trans (cgB g42)) ?_))));obtain ⟨y43, e44, h⟩ := obind h;refine k_call (.cons rfl rfl (.cons rfl rfl (.cons rfl rfl .nil))) (s70  e44) (.inl rfl) ?_;rintro _ rfl;refine k_yes (f41.trans (cgB g42)) (k_not rfl (k_pickF (f41.trans (cgB g42)) rfl ?_));exact ⟨rfl, cgB (Option.some.inj h), (by repeat (first | exact (Keep.refl _ _ _ _) | refine Keep.upd ?_ rfl _))⟩
 rintro σ48 _ _ ⟨rfl, f50, k49⟩;have f51 := (k49 1 rfl).trans f40;refine k_mov f50 (k_nil (wpE_cond (p := y46) rfl (fun g52 => ?_) (fun g52 => ?_)))
 ·have h := ctrue h g52
  refine e_reg (k_mov rfl (k_nil (wpE_ret ?_)));cases h
  exact e_ret (ct := 0) (.tmp rfl (back_sc rfl) .nil) rfl
 ·have h := cfalse h g52
  refine e_reg (k_fadrB (o := 5) f51 k5 (k_loadB rfl k5 rfl (k_len rfl (sv.any [] _ q2) (k_bin rfl rfl rfl (k_mov rfl ?_)))));obtain ⟨u53, e54, h⟩ := bnd_e h;refine k_nil (wpE_cond (p := u53) (cgB e54) (fun g55 => ?_) (fun g55 => ?_))
  ·have h := ctrue h g55
   refine e_reg (k_mov rfl (k_nil (wpE_ret ?_)));cases h
   exact e_ret (ct := 0) (.tmp rfl (back_sc rfl) .nil) rfl
  ·have h := cfalse h g55
   refine wpE_skip (e_reg (k_mov rfl (k_nil (wpE_ret ?_))));cases h
   exact e_ret (ct := 0) (.tmp rfl (back_sc rfl) .nil) rfl
theorem s71 {x0 : List uT2} {vx0 : IV} {r : Int} (hx0 : sv uR2 false vx0 x0) (h : uF71a x0 = some r) : pc L 71 [.c (I vx0)] true (P71 r) := by
 refine fn_pure (fn := ir71) rfl (nlt rfl) fun lent hl => ?_;unfold uF71a at h;refine e_reg (k_mov rfl (k_nil (wpE_seq (e_reg (k_mov rfl (k_len rfl (sv.any [] _ hx0) (k_bin rfl rfl rfl (k_nil (wpE_cond (p := (decide (((List.length x0 : Int)) > ((2000 : Int))))) rfl (fun g1 => ?_) (fun g1 => ?_))))))))))
 ·have h := ctrue h g1
  refine e_reg (k_mov rfl (k_nil (wpE_ret ?_)));cases h
  exact e_ret (ct := 0) (.tmp rfl (back_sc rfl) .nil) rfl
 ·have h := cfalse h g1
  refine wpE_skip (wpE_seq (e_reg (k_mov rfl (k_len rfl (sv.any [] _ hx0) (k_mov rfl (k_nil (wpE_block (gE fun σ2 e3 => ?_))))))));have f4 : σ2 0 = .v (.c ((I vx0))) := (congrFun e3 0).trans rfl;have f5 : σ2 9 = .v (.c ((I vx0))) := (congrFun e3 9).trans rfl;have f6 : σ2 10 = V (.int .i64 ((List.length x0 : Int))) := (congrFun e3 10).trans rfl;have f7 : σ2 11 = V (.int .i64 ((0 : Int))) := (congrFun e3 11).trans rfl;obtain ⟨e8, h9, h⟩ := lret_e h;refine wpE_mono (e_loop h9 (I := fun s σ' hp' _ => σ' 11 = V (.int .i64 s) ∧ Keep [2, 3, 4, 5] 11 48 σ2 σ' ∧ Fr [4] [] hp') (X := fun e ex σ' hp' _ => match e with | .inl e => ex = .exit 0 ∧ Keep [2, 3, 4, 5] 11 48 σ2 σ' ∧ Fr [4] [] hp' | .inr r => ex = .ret ∧ ∀ ct, atEnd 49 [Res.tmp 2] (fin lent (P71 r)) .ret σ' hp' ct) ⟨f7, Keep.refl _ _ _ _, Fr.refl _ _⟩ ?_) ?_
  ·clear h
   rintro w10 o σ12 hp13 _ h ⟨f11, k14, r15⟩;have h : uF71 x0 w10 = some o := h; unfold uF71 at h;have f16 := (k14 0 rfl).trans f4;have f17 := (k14 9 rfl).trans f5;have f18 := (k14 10 rfl).trans f6;refine e_reg (k_bin f11 f18 rfl (k_nil (wpE_seq (wpE_cond (p := (decide (w10 < ((List.length x0 : Int))))) rfl (fun g19 => ?_) (fun g19 => ?_)))))
   ·have h := ctrue h g19
    refine wpE_skip (wpE_seq (wpE_block (e_reg (k_mov f11 ?_))));obtain ⟨y20, e21, h⟩ := obind h;refine k_iadrL f17 (sv.any [] _ hx0) f11 e21 rfl fun p22 c23 q24 h25 => ?_;obtain ⟨v26, rfl, q27⟩ := uR2.inv h25;refine k_loadL rfl q24 rfl (k_alloc fun g28 hp29 k30 r31 => ?_);have r32 : Fr [4] [] hp29 := Fr.ext r15 r31 rfl;refine k_mov rfl (k_storeB rfl rfl k30 rfl fun hp33 k34 r35 => ?_);have r36 : Fr [4] [] hp33 := Fr.ext r32 r35 rfl;refine k_nil (wpE_seq (e_reg (k_fadrB (o := 0) rfl k34 (k_loadB rfl k34 rfl ?_))));obtain ⟨y37, e38, h⟩ := obind h;refine k_call (.cons rfl rfl .nil) (s134  e38) (.inl rfl) ?_;rintro _ rfl;refine k_not rfl (k_nil (wpE_cond (p := (!y37)) rfl (fun g40 => ?_) (fun g40 => ?_)))
    ·have h := ctrue h g40
     refine e_reg (k_mov rfl (k_nil (wpE_ret ?_)));cases h
     exact ⟨by decide, rfl, fun _ => e_ret (ct := 0) (.tmp rfl (back_sc rfl) .nil) rfl⟩
    ·have h := cfalse h g40
     refine wpE_skip (wpE_seq (e_reg (k_fadrB (o := 1) rfl k34 (k_loadB rfl k34 rfl ?_))));obtain ⟨y41, e42, h⟩ := obind h;refine k_call (.cons rfl rfl .nil) (s135 (cx0 := [IV.int .i64 y20.Packet.Type_, IV.int .i64 y20.Packet.Seq, IV.int .i64 y20.Packet.Time, IV.int .i64 y20.Packet.Source, IV.bool y20.Packet.Mark, (IV.retag 1 v26)]) (uR3.mk (sv_retag q27)) e42) (.inl rfl) ?_;rintro _ rfl;refine k_mov rfl (k_nil (e_reg (k_mov rfl (k_bin rfl rfl rfl (k_nil (wpE_cond (p := (y41 != ((0 : Int)))) rfl (fun g44 => ?_) (fun g44 => ?_)))))))
     ·have h := ctrue h g44
      refine e_reg (k_mov rfl (k_mov rfl (k_nil (wpE_ret ?_))));cases h
      exact ⟨by decide, rfl, fun _ => e_ret (ct := 0) (.tmp rfl (back_sc rfl) .nil) rfl⟩
     ·have h := cfalse h g44
      refine wpE_skip (wpE_seq (e_regD (by kernel_rfl) (by kernel_rfl) (k_mov rfl (k_bin rfl rfl rfl (k_mov rfl (gL fun σ45 e46 => ?_))))));have k47 : Keep [2, 3, 4, 5] 11 48 σ2 σ45 := by rw [e46]; repeat (first | exact k14 | refine Keep.upd ?_ rfl _)
      have f48 := (congrFun e46 0).trans f16;have f51 := (congrFun e46 11).trans f11;have f52 : σ45 4 = .v (.c (.r (.ptr 4 g28 0))) := (congrFun e46 4).trans rfl;have f53 : σ45 3 = V (.int .i64 w10) := (congrFun e46 3).trans rfl;have f54 : σ45 28 = V (.bool ((decide (w10 > ((0 : Int)))))) := (congrFun e46 28).trans rfl;obtain ⟨y66, e67, h⟩ := obind h;refine k_mid (fun σ' hp' _ => hp33 = hp' ∧ σ' 38 = V (.bool y66) ∧ Keep [] 29 38 σ45 σ') ?_ ?_
      ·rcases bt ((decide (w10 > ((0 : Int))))) with g55 | g55
       ·have h := ctrue e67 g55
        refine k_yes (f54.trans (cgB g55)) (k_fadrB (o := 0) f52 k34 (k_yes (f54.trans (cgB g55)) (k_loadB rfl k34 rfl (k_yes (f54.trans (cgB g55)) (k_mov f48 (k_yes (f54.trans (cgB g55)) (k_mov f53 (k_yes (f54.trans (cgB g55)) (k_bin rfl rfl rfl ?_)))))))));refine k_yes (f54.trans (cgB g55)) ?_;obtain ⟨y56, e57, h⟩ := obind h;refine k_iadrL rfl (sv.any [] _ hx0) rfl e57 rfl fun p58 c59 q60 h61 => ?_;obtain ⟨v62, rfl, q63⟩ := uR2.inv h61;refine k_yes (f54.trans (cgB g55)) (k_fadrL (o := 0) rfl q60 (nlt rfl) fun p64 q65 => ?_);refine k_yes (f54.trans (cgB g55)) (k_loadL rfl q65 rfl (k_yes (f54.trans (cgB g55)) (k_bin rfl rfl rfl (k_pickT (f54.trans (cgB g55)) rfl ?_))));exact ⟨rfl, cgB (Option.some.inj h), (by repeat (first | exact (Keep.refl _ _ _ _) | refine Keep.upd ?_ rfl _))⟩
       ·have h := cfalse e67 g55
        refine k_no (f54.trans (cgB g55)) rfl (k_no (f54.trans (cgB g55)) rfl (k_no (f54.trans (cgB g55)) rfl (k_no (f54.trans (cgB g55)) rfl (k_no (f54.trans (cgB g55)) rfl (k_no (f54.trans (cgB g55)) rfl (k_no (f54.trans (cgB g55)) rfl (k_no (f54.trans (cgB g55)) rfl (k_no (f54.trans (cgB g55)) rfl (k_pickF (f54.trans (cgB g55)) rfl ?_)))))))));exact ⟨rfl, cgB (Option.some.inj h), (by repeat (first | exact (Keep.refl _ _ _ _) | refine Keep.upd ?_ rfl _))⟩
      rintro σ68 _ _ ⟨rfl, f70, k69⟩;have f71 := (k69 0 rfl).trans f48;have f74 := (k69 11 rfl).trans f51;have f75 := (k69 4 rfl).trans f52;have k76 : Keep [2, 3, 4, 5] 11 48 σ2 σ68 := Keep.trans k47 (Keep.sub k69 rfl);refine k_nil (wpE_cond (p := y66) f70 (fun g77 => ?_) (fun g77 => ?_))
      ·have h := ctrue h g77
       refine e_reg (k_mov rfl (k_nil (wpE_ret ?_)));cases h
       exact ⟨by decide, rfl, fun _ => e_ret (ct := 0) (.tmp rfl (back_sc rfl) .nil) rfl⟩
      ·have h := cfalse h g77
       refine wpE_skip (e_regD (by kernel_rfl) (by kernel_rfl) (k_fadrB (o := 1) f75 k34 (k_fadrB (o := 3) rfl k34 (k_loadB rfl k34 rfl (k_mov f71 ?_)))));obtain ⟨y78, e79, h⟩ := obind h;refine k_iadrL rfl (sv.any [] _ hx0) rfl e79 rfl fun p80 c81 q82 h83 => ?_;obtain ⟨v84, rfl, q85⟩ := uR2.inv h83;refine k_fadrL (o := 1) rfl q82 (nlt rfl) fun p86 q87 => ?_;refine k_fadrL (o := 3) rfl q87 (nlt rfl) fun p88 q89 => ?_;refine k_loadL rfl q89 rfl (k_bin rfl rfl rfl (k_nil (wpE_cond (p := (y20.Packet.Source != y78.Packet.Source)) rfl (fun g90 => ?_) (fun g90 => ?_))))
       ·have h := ctrue h g90
        refine e_reg (k_mov rfl (k_nil (wpE_ret ?_)));cases h
        exact ⟨by decide, rfl, fun _ => e_ret (ct := 0) (.tmp rfl (back_sc rfl) .nil) rfl⟩
       ·have h := cfalse h g90
        refine wpE_skip (e_last (k_bin f74 rfl rfl (k_mov rfl (k_nil ?_))));cases h
        exact ⟨rfl, rfl, (by repeat (first | exact k76 | refine Keep.upd ?_ rfl _)), r36⟩
   ·have h := cfalse h g19
    refine wpE_exit ?_;cases h
    exact ⟨by decide, rfl, (by repeat (first | exact k14 | refine Keep.upd ?_ rfl _)), r15⟩
  rcases e8 with _ | r1;rotate_left
  ·rintro _ _ _ _ ⟨rfl, hX⟩
   cases h
   exact hX 0
  rintro _ σ91 hp92 _ ⟨rfl, k93, r94⟩;refine e_reg (k_mov rfl (k_nil (wpE_ret ?_)));cases h
  exact e_ret (ct := 0) (.tmp rfl (back_sc rfl) .nil) rfl
theorem s72 {x0 : Int} {x1 : Int} {r : Int}  (h : uF72 x0 x1 = some r) : pc L 72 [.c (I (.int .i64 x0)), .c (I (.int .i64 x1))] true (P72 r) := by
 refine fn_pure (fn := ir72) rfl (nlt rfl) fun lent hl => ?_;unfold uF72 at h;refine e_reg (k_mov rfl (k_nil (e_reg (k_mov rfl (k_mov rfl (k_bin rfl rfl rfl (k_bin rfl rfl rfl (k_mov rfl ?_))))))));obtain ⟨u1, e2, h⟩ := bnd_e h;refine k_nil (wpE_seq (e_reg (k_mov (cgI e2) (k_bin rfl rfl rfl (k_nil (gE fun σ3 e4 => ?_))))));have f5 : σ3 5 = V (.int .i64 u1) := (congrFun e4 5).trans (cgI e2);have f6 : σ3 11 = V (.bool ((decide (u1 ≥ ((2147483648 : Int)))))) := (congrFun e4 11).trans rfl;obtain ⟨y9, h8, h⟩ := obind h;refine wpE_mono (Q := fun ex σ' hp' _ => ex = .normal ∧ σ' 5 = V (.int .i64 y9) ∧ Keep [] 5 13 σ3 σ' ∧ [] = hp') ?_ ?_
 ·clear h; have h := h8
  refine wpE_cond (p := (decide (u1 ≥ ((2147483648 : Int))))) f6 (fun g10 => ?_) (fun g10 => ?_)
  ·have h := ctrue h g10
   refine e_last (k_mov f5 (k_bin rfl rfl rfl (k_mov rfl ?_)));obtain ⟨u11, e12, h⟩ := bnd_e h;refine k_nil ?_;have q0 := Option.some.inj h;obtain rfl := q0;exact ⟨rfl, (cgI e12), (by repeat (first | exact (Keep.refl _ _ _ _) | refine Keep.upd ?_ rfl _)), rfl⟩
  ·have h := cfalse h g10
   refine wpE_skip ?_;have q0 := Option.some.inj h;obtain rfl := q0;exact ⟨rfl, f5, (by repeat (first | exact (Keep.refl _ _ _ _) | refine Keep.upd ?_ rfl _)), rfl⟩
 rintro _ σ14 _ _ ⟨rfl, f13, k16, rfl⟩;refine e_reg (k_mov f13 (k_mov rfl (k_nil (wpE_ret ?_))));cases h
 exact e_ret (ct := 0) (.tmp rfl (back_sc rfl) .nil) rfl
theorem s73 {x0 : Int} {r : Int}  (h : uF73 x0 = some r) : pc L 73 [.c (I (.int .u8 x0))] true (P73 r) := by
 refine fn_pure (fn := ir73) rfl (nlt rfl) fun lent hl => ?_;unfold uF73 at h;refine e_reg (k_mov rfl (k_nil (e_reg (k_mov rfl (k_cvI rfl (k_bin rfl rfl rfl (k_mov rfl ?_)))))));obtain ⟨u1, e2, h⟩ := bnd_e h;refine k_nil (e_reg (k_mov (cgI e2) (k_quo rfl rfl (q := _) rfl (k_mov (cgI e2) (k_quo rfl rfl (q := _) rfl (k_rem rfl rfl (q := _) rfl (k_mov (cgI e2) (k_rem rfl rfl (q := _) rfl (k_mov rfl ?_)))))))));refine k_mov rfl (k_mov rfl (k_nil (e_reg (k_mov rfl (k_bin rfl rfl rfl (k_bin rfl rfl rfl (k_mov rfl ?_)))))));obtain ⟨y3, e4, h⟩ := obind h;refine k_shl rfl rfl e4 (k_bin rfl rfl rfl (k_bin rfl rfl rfl (k_mov rfl ?_)));obtain ⟨u5, e6, h⟩ := bnd_e h;refine k_nil (wpE_seq (e_reg (k_mov rfl (k_bin rfl rfl rfl (k_nil (wpE_cond (p := (((IntKind.wrap .i64 (Int.tdiv u1 ((128 : Int))))) == ((1 : Int)))) rfl (fun g7 => ?_) (fun g7 => ?_)))))))
 ·have h := ctrue h g7
  refine e_reg (k_mov (cgI e6) (k_neg rfl (k_bin rfl rfl rfl (k_mov rfl ?_))));obtain ⟨u8, e9, h⟩ := bnd_e h;refine k_nil (wpE_ret ?_);cases h
  exact e_ret (ct := 0) (.tmp (cgI e9) (back_sc rfl) .nil) rfl
 ·have h := cfalse h g7
  refine wpE_skip (e_reg (k_mov (cgI e6) (k_mov rfl (k_nil (wpE_ret ?_)))));cases h
  exact e_ret (ct := 0) (.tmp rfl (back_sc rfl) .nil) rfl
end Go.Proofs.YtoclmbbfdokbhaaGreatDoor
