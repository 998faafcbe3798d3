/-
 The small code of functions comes to the Lean functions. Printed by a program of mine.
-/
import Derived.Test.YtagbgmkocjfanaaGreatDoorHM4Sa
namespace Go.Proofs.YtagbgmkocjfanaaGreatDoor
open Go Go.Abs
set_option maxRecDepth 100000
set_option maxHeartbeats 8000000
theorem s114 {x0 : Int} {x1 : Int} {x2 : Int} {r : Bool}  (h : uF114 x0 x1 x2 = some r) : pc L 114 [.c (I (.int .i64 x0)), .c (I (.int .i64 x1)), .c (I (.int .i64 x2))] true (P114 r) := by
 refine fn_pure (fn := ir114) rfl (nlt rfl) fun lent hl => ?_;unfold uF114 at h;refine e_reg (k_mov rfl (k_nil (e_reg (k_mov rfl (k_mov rfl (k_bin rfl rfl rfl (k_mov rfl (gL fun σ1 e2 => ?_))))))));have f3 : σ1 0 = V (.int .i64 x0) := (congrFun e2 0).trans rfl;have f4 : σ1 2 = V (.int .i64 x2) := (congrFun e2 2).trans rfl;have f5 : σ1 10 = V (.bool ((decide (x1 ≤ x0)))) := (congrFun e2 10).trans rfl;refine k_mid (fun σ' hp' _ => [] = hp' ∧ σ' 14 = V (.bool (((decide (x1 ≤ x0)) && (decide (x0 ≤ x2))))) ∧ Keep [] 11 14 σ1 σ') ?_ ?_
 ·rcases bt ((decide (x1 ≤ x0))) with g6 | g6
  ·refine k_yes (f5.trans (cgB g6)) ?_
   refine k_mov f3 (k_yes (f5.trans (cgB g6)) (k_mov f4 (k_yes (f5.trans (cgB g6)) (k_bin rfl rfl rfl (k_pickT (f5.trans (cgB g6)) rfl ?_)))));exact ⟨rfl, cgB (by rw [g6]; rfl), (by repeat (first | exact (Keep.refl _ _ _ _) | refine Keep.upd ?_ rfl _))⟩
  ·refine k_no (f5.trans (cgB g6)) rfl ?_
   refine k_no (f5.trans (cgB g6)) rfl (k_no (f5.trans (cgB g6)) rfl (k_pickF (f5.trans (cgB g6)) rfl ?_));exact ⟨rfl, cgB (by rw [g6]; rfl), (by repeat (first | exact (Keep.refl _ _ _ _) | refine Keep.upd ?_ rfl _))⟩
 rintro σ7 _ _ ⟨rfl, f9, k8⟩;refine k_mov f9 ?_;obtain ⟨u10, e11, h⟩ := bnd_e h;refine k_nil (wpE_ret ?_);cases h
 exact e_ret (ct := 0) (.tmp (cgB e11) (back_sc rfl) .nil) rfl
theorem s224 {x0 : List UInt8} {x1 : Int} {r : Int} (h : uF224 x0 x1 = some r) : pc L 224 [.c (I (.str x0)), .c (I (.int .u8 x1))] true (P224 r) := by
 cases h
 intro lent _;refine ⟨[.c (I (.int .i64 _))], ?_, rfl⟩;unfold pureCall;rw [show L 224 _ [] = some ([.c (I (.int .i64 (Lib.indexByte x0 x1.toNat.toUInt8)))], []) from lim_x rfl _ _ rfl];cases lent <;> rfl
theorem s191 {x0 : List UInt8} {x1 : Int} {r : Int}  (h : uF191 x0 x1 = some r) : pc L 191 [.c (I (.str x0)), .c (I (.int .u8 x1))] true (P191 r) := by
 refine fn_pure (fn := ir191) rfl (nlt rfl) fun lent hl => ?_;unfold uF191 at h;refine e_reg (k_mov rfl (k_nil (e_reg (k_mov rfl (k_mov rfl ?_)))));obtain ⟨y1, e2, h⟩ := obind h;refine k_call (.cons rfl rfl (.cons rfl rfl .nil)) (s224  e2) (.inl rfl) ?_;rintro _ rfl;refine k_mov rfl (k_nil (wpE_ret ?_));cases h
 exact e_ret (ct := 0) (.tmp rfl (back_sc rfl) .nil) rfl
theorem s141 {x0 : List UInt8} {x1 : Int} {r : Int}  (h : uF141 x0 x1 = some r) : pc L 141 [.c (I (.str x0)), .c (I (.int .u8 x1))] true (P141 r) := by
 refine fn_pure (fn := ir141) rfl (nlt rfl) fun lent hl => ?_;unfold uF141 at h;refine e_reg (k_mov rfl (k_nil (e_reg (k_mov rfl (k_mov rfl ?_)))));obtain ⟨y1, e2, h⟩ := obind h;refine k_call (.cons rfl rfl (.cons rfl rfl .nil)) (s191  e2) (.inl rfl) ?_;rintro _ rfl;refine k_mov rfl (k_nil (wpE_ret ?_));cases h
 exact e_ret (ct := 0) (.tmp rfl (back_sc rfl) .nil) rfl
theorem s169 {x0 : List UInt8} {x1 : List UInt8} {r : Bool}  (h : uF169 x0 x1 = some r) : pc L 169 [.c (I (.str x0)), .c (I (.str x1))] true (P169 r) := by
 refine fn_pure (fn := ir169) rfl (nlt rfl) fun lent hl => ?_;unfold uF169 at h;refine e_reg (k_mov rfl (k_nil (wpE_seq (e_reg (k_mov rfl (k_lenS rfl (k_mov rfl (k_nil (wpE_block ?_)))))))));refine gE fun σ1 e2 => ?_;have f3 : σ1 0 = V (.str x0) := (congrFun e2 0).trans rfl;have f4 : σ1 1 = V (.str x1) := (congrFun e2 1).trans rfl;have f5 : σ1 7 = V (.int .i64 ((List.length x0 : Int))) := (congrFun e2 7).trans rfl;have f6 : σ1 8 = V (.int .i64 ((0 : Int))) := (congrFun e2 8).trans rfl;obtain ⟨e7, h8, h⟩ := lret_e h;refine wpE_mono (e_loop h8 (I := fun s σ' hp' _ => σ' 8 = V (.int .i64 s) ∧ Keep [4, 5] 8 17 σ1 σ' ∧ [] = hp') (X := fun e ex σ' hp' _ => match e with | .inl e => ex = .exit 0 ∧ Keep [4, 5] 8 17 σ1 σ' ∧ [] = hp' | .inr r => ex = .ret ∧ ∀ ct, atEnd 18 [Res.tmp 4] (fin lent (P169 r)) .ret σ' hp' ct) ⟨f6, Keep.refl _ _ _ _, rfl⟩ ?_) ?_
 ·clear h
  rintro w9 o σ11 _ _ h ⟨f10, k13, rfl⟩;have h : uF169a x0 x1 w9 = some o := h; unfold uF169a at h;have f15 := (k13 0 rfl).trans f3;have f16 := (k13 1 rfl).trans f4;have f17 := (k13 7 rfl).trans f5;refine e_reg (k_bin f10 f17 rfl (k_nil (wpE_seq (wpE_cond (p := (decide (w9 < ((List.length x0 : Int))))) rfl (fun g18 => ?_) (fun g18 => ?_)))))
  ·have h := ctrue h g18
   refine wpE_skip (wpE_seq (wpE_block (e_reg (k_mov f10 (k_mov rfl (k_nil (e_reg (k_mov f16 (k_mov f15 ?_)))))))));refine k_mov rfl ?_;obtain ⟨y19, e20, h⟩ := obind h;refine k_idxS rfl rfl e20 ?_;obtain ⟨y21, e22, h⟩ := obind h;refine k_call (.cons rfl rfl (.cons rfl rfl .nil)) (s141  e22) (.inl rfl) ?_;rintro _ rfl;refine k_bin rfl rfl rfl (k_nil (wpE_cond (p := (decide (y21 < ((0 : Int))))) rfl (fun g24 => ?_) (fun g24 => ?_)))
   ·have h := ctrue h g24
    refine e_reg (k_mov rfl (k_nil (wpE_ret ?_)));cases h
    exact ⟨by decide, rfl, fun _ => e_ret (ct := 0) (.tmp rfl (back_sc rfl) .nil) rfl⟩
   ·have h := cfalse h g24
    refine wpE_skip (e_last (k_bin f10 rfl rfl (k_mov rfl (k_nil ?_))));cases h
    exact ⟨rfl, rfl, (by repeat (first | exact k13 | refine Keep.upd ?_ rfl _)), rfl⟩
  ·have h := cfalse h g18
   refine wpE_exit ?_;cases h
   exact ⟨by decide, rfl, (by repeat (first | exact k13 | refine Keep.upd ?_ rfl _)), rfl⟩
 rcases e7 with _ | r1;rotate_left
 ·rintro _ _ _ _ ⟨rfl, hX⟩
  cases h
  exact hX 0
 rintro _ σ25 _ _ ⟨rfl, k27, rfl⟩;refine e_reg (k_mov rfl (k_nil (wpE_ret ?_)));cases h
 exact e_ret (ct := 0) (.tmp rfl (back_sc rfl) .nil) rfl
theorem s111 {x0 : List UInt8} {r : Bool}  (h : uF111 x0 = some r) : pc L 111 [.c (I (.str x0))] true (P111 r) := by
 refine fn_pure (fn := ir111) rfl (nlt rfl) fun lent hl => ?_;unfold uF111 at h;refine e_reg (k_mov rfl (k_nil (e_reg (k_mov rfl (k_lenS rfl ?_)))));obtain ⟨y1, e2, h⟩ := obind h;refine k_call (.cons rfl rfl (.cons rfl rfl (.cons rfl rfl .nil))) (s114  e2) (.inl rfl) ?_;rintro _ rfl;refine k_mov rfl (gL fun σ4 e5 => ?_);have f6 : σ4 0 = V (.str x0) := (congrFun e5 0).trans rfl;have f7 : σ4 6 = V (.bool y1) := (congrFun e5 6).trans rfl;obtain ⟨y14, e15, h⟩ := obind h;refine k_mid (fun σ' hp' _ => [] = hp' ∧ σ' 10 = V (.bool y14) ∧ Keep [] 7 10 σ4 σ') ?_ ?_
 ·rcases bt y1 with g8 | g8
  ·have h := ctrue e15 g8
   refine k_yes (f7.trans (cgB g8)) (k_mov f6 (k_yes (f7.trans (cgB g8)) ?_));obtain ⟨y9, e10, h⟩ := obind h;refine k_slcT rfl .none (.some rfl) e10 (k_yes (f7.trans (cgB g8)) ?_);obtain ⟨y11, e12, h⟩ := obind h;refine k_call (.cons rfl rfl (.cons rfl rfl .nil)) (s169  e12) (.inl rfl) ?_;rintro _ rfl;refine k_pickT (f7.trans (cgB g8)) rfl ?_;exact ⟨rfl, cgB (Option.some.inj h), (by repeat (first | exact (Keep.refl _ _ _ _) | refine Keep.upd ?_ rfl _))⟩
  ·have h := cfalse e15 g8
   refine k_no (f7.trans (cgB g8)) rfl (k_no (f7.trans (cgB g8)) rfl (k_no (f7.trans (cgB g8)) rfl (k_pickF (f7.trans (cgB g8)) rfl ?_)));exact ⟨rfl, cgB (Option.some.inj h), (by repeat (first | exact (Keep.refl _ _ _ _) | refine Keep.upd ?_ rfl _))⟩
 rintro σ16 _ _ ⟨rfl, f18, k17⟩;have f19 := (k17 0 rfl).trans f6;refine k_mov f18 (gL fun σ20 e21 => ?_);have f22 := (congrFun e21 0).trans f19;have f23 : σ20 11 = V (.bool y14) := (congrFun e21 11).trans rfl;obtain ⟨y28, e29, h⟩ := obind h;refine k_mid (fun σ' hp' _ => [] = hp' ∧ σ' 14 = V (.bool y28) ∧ Keep [] 12 14 σ20 σ') ?_ ?_
 ·rcases bt y14 with g24 | g24
  ·have h := ctrue e29 g24
   refine k_yes (f23.trans (cgB g24)) (k_mov f22 (k_yes (f23.trans (cgB g24)) ?_));obtain ⟨y25, e26, h⟩ := obind h;refine k_call (.cons rfl rfl (.cons rfl rfl .nil)) (s169  e26) (.inl rfl) ?_;rintro _ rfl;refine k_pickT (f23.trans (cgB g24)) rfl ?_;exact ⟨rfl, cgB (Option.some.inj h), (by repeat (first | exact (Keep.refl _ _ _ _) | refine Keep.upd ?_ rfl _))⟩
  ·have h := cfalse e29 g24
   refine k_no (f23.trans (cgB g24)) rfl (k_no (f23.trans (cgB g24)) rfl (k_pickF (f23.trans (cgB g24)) rfl ?_));exact ⟨rfl, cgB (Option.some.inj h), (by repeat (first | exact (Keep.refl _ _ _ _) | refine Keep.upd ?_ rfl _))⟩
 rintro σ30 _ _ ⟨rfl, f32, k31⟩;refine k_mov f32 (k_nil (wpE_ret ?_));cases h
 exact e_ret (ct := 0) (.tmp rfl (back_sc rfl) .nil) rfl
theorem s217 {x0 : List UInt8} {x1 : List UInt8} {r : Bool}  (h : uF217 x0 x1 = some r) : pc L 217 [.c (I (.str x0)), .c (I (.str x1))] true (P217 r) := by
 refine fn_pure (fn := ir217) rfl (nlt rfl) fun lent hl => ?_;unfold uF217 at h;refine e_reg (k_mov rfl (k_nil (e_reg (k_mov rfl (k_lenS rfl (k_mov rfl (k_lenS rfl (k_bin rfl rfl rfl (k_mov rfl ?_)))))))));refine gL fun σ1 e2 => ?_;have f3 : σ1 0 = V (.str x0) := (congrFun e2 0).trans rfl;have f4 : σ1 1 = V (.str x1) := (congrFun e2 1).trans rfl;have f5 : σ1 10 = V (.bool ((decide (((List.length x0 : Int)) ≥ ((List.length x1 : Int)))))) := (congrFun e2 10).trans rfl;obtain ⟨y9, e10, h⟩ := obind h;refine k_mid (fun σ' hp' _ => [] = hp' ∧ σ' 17 = V (.bool y9) ∧ Keep [] 11 17 σ1 σ') ?_ ?_
 ·rcases bt ((decide (((List.length x0 : Int)) ≥ ((List.length x1 : Int))))) with g6 | g6
  ·have h := ctrue e10 g6
   refine k_yes (f5.trans (cgB g6)) (k_mov f3 (k_yes (f5.trans (cgB g6)) (k_mov f4 (k_yes (f5.trans (cgB g6)) (k_lenS rfl (k_yes (f5.trans (cgB g6)) ?_))))));obtain ⟨y7, e8, h⟩ := obind h;refine k_slcT rfl .none (.some rfl) e8 (k_yes (f5.trans (cgB g6)) (k_mov f4 (k_yes (f5.trans (cgB g6)) (k_bin rfl rfl rfl (k_pickT (f5.trans (cgB g6)) rfl ?_)))));exact ⟨rfl, cgB (Option.some.inj h), (by repeat (first | exact (Keep.refl _ _ _ _) | refine Keep.upd ?_ rfl _))⟩
  ·have h := cfalse e10 g6
   refine k_no (f5.trans (cgB g6)) rfl (k_no (f5.trans (cgB g6)) rfl (k_no (f5.trans (cgB g6)) rfl (k_no (f5.trans (cgB g6)) rfl (k_no (f5.trans (cgB g6)) rfl (k_no (f5.trans (cgB g6)) rfl (k_pickF (f5.trans (cgB g6)) rfl ?_))))));exact ⟨rfl, cgB (Option.some.inj h), (by repeat (first | exact (Keep.refl _ _ _ _) | refine Keep.upd ?_ rfl _))⟩
 rintro σ11 _ _ ⟨rfl, f13, k12⟩;refine k_mov f13 (k_nil (wpE_ret ?_));cases h
 exact e_ret (ct := 0) (.tmp rfl (back_sc rfl) .nil) rfl
theorem s178 {x0 : List UInt8} {x1 : List UInt8} {r : List UInt8 × Bool}  (h : uF178 x0 x1 = some r) : pc L 178 [.c (I (.str x0)), .c (I (.str x1))] true (P178 r) := by
 refine fn_pure (fn := ir178) rfl (nlt rfl) fun lent hl => ?_;unfold uF178 at h;refine e_reg (k_mov rfl ?_);obtain ⟨u1, e2, h⟩ := bnd_e h;refine k_mov rfl (k_nil (wpE_seq (e_reg (k_mov rfl (k_mov rfl ?_)))));obtain ⟨y3, e4, h⟩ := obind h;refine k_call (.cons rfl rfl (.cons rfl rfl .nil)) (s217  e4) (.inl rfl) ?_;rintro _ rfl;refine k_not rfl (k_nil (wpE_cond (p := (!y3)) rfl (fun g6 => ?_) (fun g6 => ?_)))
 ·have h := ctrue h g6
  refine e_reg (k_mov rfl (k_mov rfl (k_mov rfl (k_nil (wpE_ret ?_)))));cases h
  exact e_ret (ct := 0) (.tmp rfl (back_sc rfl) (.tmp rfl (back_sc rfl) .nil)) rfl
 ·have h := cfalse h g6
  refine wpE_skip (e_reg (k_mov rfl (k_mov rfl (k_lenS rfl ?_))));obtain ⟨y7, e8, h⟩ := obind h;refine k_slcT rfl (.some rfl) .none e8 (k_mov rfl (k_mov rfl (k_nil (wpE_ret ?_))));cases h
  exact e_ret (ct := 0) (.tmp rfl (back_sc rfl) (.tmp rfl (back_sc rfl) .nil)) rfl
theorem s130 {x0 : List UInt8} {x1 : List UInt8} {r : List UInt8 × Bool}  (h : uF130 x0 x1 = some r) : pc L 130 [.c (I (.str x0)), .c (I (.str x1))] true (P130 r) := by
 refine fn_pure (fn := ir130) rfl (nlt rfl) fun lent hl => ?_;unfold uF130 at h;refine e_reg (k_mov rfl ?_);obtain ⟨u1, e2, h⟩ := bnd_e h;refine k_mov rfl (k_nil (e_reg (k_mov rfl (k_mov rfl ?_))));obtain ⟨y3, e4, h⟩ := obind h;refine k_call (.cons rfl rfl (.cons rfl rfl .nil)) (s178  e4) (.inl rfl) ?_;rintro _ rfl;refine k_ext rfl rfl (k_ext rfl rfl (k_mov rfl (k_mov rfl (k_nil (wpE_ret ?_)))));cases h
 exact e_ret (ct := 0) (.tmp rfl (back_sc rfl) (.tmp rfl (back_sc rfl) .nil)) rfl
theorem s112 {x0 : List UInt8} {r : Bool}  (h : uF112 x0 = some r) : pc L 112 [.c (I (.str x0))] true (P112 r) := by
 refine fn_pure (fn := ir112) rfl (nlt rfl) fun lent hl => ?_;unfold uF112 at h;refine e_reg (k_mov rfl (k_nil (e_reg (k_mov rfl ?_))));obtain ⟨y1, e2, h⟩ := obind h;refine k_call (.cons rfl rfl (.cons rfl rfl .nil)) (s130  e2) (.inl rfl) ?_;rintro _ rfl;refine k_movT rfl (k_ext rfl rfl (k_ext rfl rfl (k_mov rfl (k_mov rfl (k_nil (e_reg (k_mov rfl (k_mov rfl (gL fun σ4 e5 => ?_)))))))));have f6 : σ4 3 = V (.str y1.1) := (congrFun e5 3).trans rfl;have f7 : σ4 11 = V (.bool y1.2) := (congrFun e5 11).trans rfl;obtain ⟨y12, e13, h⟩ := obind h;refine k_mid (fun σ' hp' _ => [] = hp' ∧ σ' 15 = V (.bool y12) ∧ Keep [] 12 15 σ4 σ') ?_ ?_
 ·rcases bt y1.2 with g8 | g8
  ·have h := ctrue e13 g8
   refine k_yes (f7.trans (cgB g8)) (k_mov f6 (k_yes (f7.trans (cgB g8)) (k_lenS rfl (k_yes (f7.trans (cgB g8)) ?_))));obtain ⟨y9, e10, h⟩ := obind h;refine k_call (.cons rfl rfl (.cons rfl rfl (.cons rfl rfl .nil))) (s114  e10) (.inl rfl) ?_;rintro _ rfl;refine k_pickT (f7.trans (cgB g8)) rfl ?_;exact ⟨rfl, cgB (Option.some.inj h), (by repeat (first | exact (Keep.refl _ _ _ _) | refine Keep.upd ?_ rfl _))⟩
  ·have h := cfalse e13 g8
   refine k_no (f7.trans (cgB g8)) rfl (k_no (f7.trans (cgB g8)) rfl (k_no (f7.trans (cgB g8)) rfl (k_pickF (f7.trans (cgB g8)) rfl ?_)));exact ⟨rfl, cgB (Option.some.inj h), (by repeat (first | exact (Keep.refl _ _ _ _) | refine Keep.upd ?_ rfl _))⟩
 rintro σ14 _ _ ⟨rfl, f16, k15⟩;have f17 := (k15 3 rfl).trans f6;refine k_mov f16 (gL fun σ18 e19 => ?_);have f20 := (congrFun e19 3).trans f17;have f21 : σ18 16 = V (.bool y12) := (congrFun e19 16).trans rfl;obtain ⟨y26, e27, h⟩ := obind h;refine k_mid (fun σ' hp' _ => [] = hp' ∧ σ' 19 = V (.bool y26) ∧ Keep [] 17 19 σ18 σ') ?_ ?_
 ·rcases bt y12 with g22 | g22
  ·have h := ctrue e27 g22
   refine k_yes (f21.trans (cgB g22)) (k_mov f20 (k_yes (f21.trans (cgB g22)) ?_));obtain ⟨y23, e24, h⟩ := obind h;refine k_call (.cons rfl rfl (.cons rfl rfl .nil)) (s169  e24) (.inl rfl) ?_;rintro _ rfl;refine k_pickT (f21.trans (cgB g22)) rfl ?_;exact ⟨rfl, cgB (Option.some.inj h), (by repeat (first | exact (Keep.refl _ _ _ _) | refine Keep.upd ?_ rfl _))⟩
  ·have h := cfalse e27 g22
   refine k_no (f21.trans (cgB g22)) rfl (k_no (f21.trans (cgB g22)) rfl (k_pickF (f21.trans (cgB g22)) rfl ?_));exact ⟨rfl, cgB (Option.some.inj h), (by repeat (first | exact (Keep.refl _ _ _ _) | refine Keep.upd ?_ rfl _))⟩
 rintro σ28 _ _ ⟨rfl, f30, k29⟩;have f31 := (k29 3 rfl).trans f20;refine k_mov f30 (gL fun σ32 e33 => ?_);have f34 := (congrFun e33 3).trans f31;have f35 : σ32 20 = V (.bool y26) := (congrFun e33 20).trans rfl;obtain ⟨y39, e40, h⟩ := obind h;refine k_mid (fun σ' hp' _ => [] = hp' ∧ σ' 24 = V (.bool y39) ∧ Keep [] 21 24 σ32 σ') ?_ ?_
 ·rcases bt y26 with g36 | g36
  ·have h := ctrue e40 g36
   refine k_yes (f35.trans (cgB g36)) (k_mov f34 (k_yes (f35.trans (cgB g36)) ?_));obtain ⟨y37, e38, h⟩ := obind h;refine k_idxS rfl rfl e38 (k_yes (f35.trans (cgB g36)) (k_bin rfl rfl rfl (k_pickT (f35.trans (cgB g36)) rfl ?_)));exact ⟨rfl, cgB (Option.some.inj h), (by repeat (first | exact (Keep.refl _ _ _ _) | refine Keep.upd ?_ rfl _))⟩
  ·have h := cfalse e40 g36
   refine k_no (f35.trans (cgB g36)) rfl (k_no (f35.trans (cgB g36)) rfl (k_no (f35.trans (cgB g36)) rfl (k_pickF (f35.trans (cgB g36)) rfl ?_)));exact ⟨rfl, cgB (Option.some.inj h), (by repeat (first | exact (Keep.refl _ _ _ _) | refine Keep.upd ?_ rfl _))⟩
 rintro σ41 _ _ ⟨rfl, f43, k42⟩;refine k_mov f43 (k_nil (wpE_ret ?_));cases h
 exact e_ret (ct := 0) (.tmp rfl (back_sc rfl) .nil) rfl
theorem s113 {x0 : Int} {r : Bool}  (h : uF113 x0 = some r) : pc L 113 [.c (I (.int .i64 x0))] true (P113 r) := by
 refine fn_pure (fn := ir113) rfl (nlt rfl) fun lent hl => ?_;unfold uF113 at h;refine e_reg (k_mov rfl (k_nil (e_reg (k_mov rfl ?_))));obtain ⟨y1, e2, h⟩ := obind h;refine k_call (.cons rfl rfl (.cons rfl rfl (.cons rfl rfl .nil))) (s114  e2) (.inl rfl) ?_;rintro _ rfl;refine k_mov rfl (k_nil (wpE_ret ?_));cases h
 exact e_ret (ct := 0) (.tmp rfl (back_sc rfl) .nil) rfl
theorem s53 {x0 : List uT1} {vx0 : IV} {r : Int} (hx0 : sv uR1 false vx0 x0) (h : uF53b x0 = some r) : pc L 53 [.c (I vx0)] true (P53 r) := by
 refine fn_pure (fn := ir53) rfl (nlt rfl) fun lent hl => ?_;unfold uF53b at h;refine e_reg (k_mov rfl (k_nil (wpE_seq (e_reg (k_mov rfl (k_len rfl (sv.any [] _ hx0) (k_bin rfl rfl rfl (k_nil (wpE_cond (p := (decide (((List.length x0 : Int)) > ((3000 : Int))))) rfl (fun g1 => ?_) (fun g1 => ?_))))))))))
 ·have h := ctrue h g1
  refine e_reg (k_mov rfl (k_nil (wpE_ret ?_)));cases h
  exact e_ret (ct := 0) (.tmp rfl (back_sc rfl) .nil) rfl
 ·have h := cfalse h g1
  refine wpE_skip (wpE_seq (e_reg (k_mov rfl (k_len rfl (sv.any [] _ hx0) (k_mov rfl (k_nil (wpE_block (gE fun σ2 e3 => ?_))))))));have f4 : σ2 0 = .v (.c ((I vx0))) := (congrFun e3 0).trans rfl;have f5 : σ2 11 = .v (.c ((I vx0))) := (congrFun e3 11).trans rfl;have f6 : σ2 12 = V (.int .i64 ((List.length x0 : Int))) := (congrFun e3 12).trans rfl;have f7 : σ2 13 = V (.int .i64 ((0 : Int))) := (congrFun e3 13).trans rfl;obtain ⟨e8, h9, h⟩ := lret_e h;refine wpE_mono (e_loop h9 (I := fun s σ' hp' _ => σ' 13 = V (.int .i64 s) ∧ Keep [2, 3, 4] 13 87 σ2 σ' ∧ Fr [4] [] hp') (X := fun e ex σ' hp' _ => match e with | .inl e => ex = .exit 0 ∧ Keep [2, 3, 4] 13 87 σ2 σ' ∧ Fr [4] [] hp' | .inr r => ex = .ret ∧ ∀ ct, atEnd 104 [Res.tmp 2] (fin lent (P53 r)) .ret σ' hp' ct) ⟨f7, Keep.refl _ _ _ _, Fr.refl _ _⟩ ?_) ?_
  ·clear h
   rintro w10 o σ12 hp13 _ h ⟨f11, k14, r15⟩;have h : uF53 x0 w10 = some o := h; unfold uF53 at h;have f16 := (k14 0 rfl).trans f4;have f17 := (k14 11 rfl).trans f5;have f18 := (k14 12 rfl).trans f6;refine e_reg (k_bin f11 f18 rfl (k_nil (wpE_seq (wpE_cond (p := (decide (w10 < ((List.length x0 : Int))))) rfl (fun g19 => ?_) (fun g19 => ?_)))))
   ·have h := ctrue h g19
    refine wpE_skip (wpE_seq (wpE_block (e_reg (k_mov f11 ?_))));obtain ⟨y20, e21, h⟩ := obind h;refine k_iadrL f17 (sv.any [] _ hx0) f11 e21 rfl fun p22 c23 q24 h25 => ?_;obtain ⟨_, rfl⟩ := uR1.inv h25;refine k_loadL rfl q24 rfl (k_alloc fun g26 hp27 k28 r29 => ?_);have r30 : Fr [4] [] hp27 := Fr.ext r15 r29 rfl;refine k_mov rfl (k_storeB rfl rfl k28 rfl fun hp31 k32 r33 => ?_);have r34 : Fr [4] [] hp31 := Fr.ext r30 r33 rfl;refine k_nil (wpE_block (e_reg (k_fadrB (o := 0) rfl k32 (k_loadB rfl k32 rfl ?_))));obtain ⟨y35, e36, h⟩ := obind h;refine k_call (.cons rfl rfl .nil) (s111  e36) (.inl rfl) ?_;rintro _ rfl;refine k_not rfl (k_mov rfl (k_nil (wpE_cond (p := (!y35)) rfl (fun g38 => ?_) (fun g38 => ?_))))
    ·have h := ctrue h g38
     refine e_reg (k_mov rfl (k_nil (wpE_ret ?_)));cases h
     exact ⟨by decide, rfl, fun _ => e_ret (ct := 0) (.tmp rfl (back_sc rfl) .nil) rfl⟩
    ·have h := cfalse h g38
     refine e_reg (k_fadrB (o := 1) rfl k32 (k_loadB rfl k32 rfl ?_));obtain ⟨y39, e40, h⟩ := obind h;refine k_call (.cons rfl rfl .nil) (s112  e40) (.inl rfl) ?_;rintro _ rfl;refine k_not rfl (k_mov rfl (gL fun σ42 e43 => ?_));have k44 : Keep [2, 3, 4] 13 87 σ2 σ42 := by rw [e43]; repeat (first | exact k14 | refine Keep.upd ?_ rfl _)
     have f45 := (congrFun e43 0).trans f16;have f48 := (congrFun e43 13).trans f11;have f49 : σ42 4 = .v (.c (.r (.ptr 4 g26 0))) := (congrFun e43 4).trans rfl;have f50 : σ42 3 = V (.int .i64 w10) := (congrFun e43 3).trans rfl;have f51 : σ42 28 = V (.bool (!y39)) := (congrFun e43 28).trans rfl;obtain ⟨y56, e57, h⟩ := obind h;refine k_mid (fun σ' hp' _ => hp31 = hp' ∧ σ' 33 = V (.bool y56) ∧ Keep [] 29 33 σ42 σ') ?_ ?_
     ·rcases bt (!y39) with g52 | g52
      ·have h := ctrue e57 g52
       refine k_no (f51.trans (cgB g52)) rfl (k_no (f51.trans (cgB g52)) rfl (k_no (f51.trans (cgB g52)) rfl (k_no (f51.trans (cgB g52)) rfl (k_pickT (f51.trans (cgB g52)) rfl ?_))));exact ⟨rfl, cgB (Option.some.inj h), (by repeat (first | exact (Keep.refl _ _ _ _) | refine Keep.upd ?_ rfl _))⟩
      ·have h := cfalse e57 g52
       refine k_yes (f51.trans (cgB g52)) (k_fadrB (o := 2) f49 k32 (k_yes (f51.trans (cgB g52)) (k_loadB rfl k32 rfl (k_yes (f51.trans (cgB g52)) ?_))));obtain ⟨y53, e54, h⟩ := obind h;refine k_call (.cons rfl rfl .nil) (s112  e54) (.inl rfl) ?_;rintro _ rfl;refine k_yes (f51.trans (cgB g52)) (k_not rfl (k_pickF (f51.trans (cgB g52)) rfl ?_));exact ⟨rfl, cgB (Option.some.inj h), (by repeat (first | exact (Keep.refl _ _ _ _) | refine Keep.upd ?_ rfl _))⟩
     rintro σ58 _ _ ⟨rfl, f60, k59⟩;have f61 := (k59 0 rfl).trans f45;have f64 := (k59 13 rfl).trans f48;have f65 := (k59 4 rfl).trans f49;have f66 := (k59 3 rfl).trans f50;have k67 : Keep [2, 3, 4] 13 87 σ2 σ58 := Keep.trans k44 (Keep.sub k59 rfl);refine k_mov f60 (k_nil (wpE_cond (p := y56) rfl (fun g68 => ?_) (fun g68 => ?_)))
     ·have h := ctrue h g68
      refine e_reg (k_mov rfl (k_nil (wpE_ret ?_)));cases h
      exact ⟨by decide, rfl, fun _ => e_ret (ct := 0) (.tmp rfl (back_sc rfl) .nil) rfl⟩
     ·have h := cfalse h g68
      refine e_reg (k_fadrB (o := 3) f65 k32 (k_loadB rfl k32 rfl ?_));obtain ⟨y69, e70, h⟩ := obind h;refine k_call (.cons rfl rfl .nil) (s113  e70) (.inl rfl) ?_;rintro _ rfl;refine k_not rfl (k_mov rfl (gL fun σ72 e73 => ?_));have k74 : Keep [2, 3, 4] 13 87 σ2 σ72 := by rw [e73]; repeat (first | exact k67 | refine Keep.upd ?_ rfl _)
      have f75 := (congrFun e73 0).trans f61;have f78 := (congrFun e73 13).trans f64;have f79 := (congrFun e73 4).trans f65;have f80 := (congrFun e73 3).trans f66;have f81 : σ72 39 = V (.bool (!y69)) := (congrFun e73 39).trans rfl;obtain ⟨y86, e87, h⟩ := obind h;refine k_mid (fun σ' hp' _ => hp31 = hp' ∧ σ' 44 = V (.bool y86) ∧ Keep [] 40 44 σ72 σ') ?_ ?_
      ·rcases bt (!y69) with g82 | g82
       ·have h := ctrue e87 g82
        refine k_no (f81.trans (cgB g82)) rfl (k_no (f81.trans (cgB g82)) rfl (k_no (f81.trans (cgB g82)) rfl (k_no (f81.trans (cgB g82)) rfl (k_pickT (f81.trans (cgB g82)) rfl ?_))));exact ⟨rfl, cgB (Option.some.inj h), (by repeat (first | exact (Keep.refl _ _ _ _) | refine Keep.upd ?_ rfl _))⟩
       ·have h := cfalse e87 g82
        refine k_yes (f81.trans (cgB g82)) (k_fadrB (o := 4) f79 k32 (k_yes (f81.trans (cgB g82)) (k_loadB rfl k32 rfl (k_yes (f81.trans (cgB g82)) ?_))));obtain ⟨y83, e84, h⟩ := obind h;refine k_call (.cons rfl rfl (.cons rfl rfl (.cons rfl rfl .nil))) (s114  e84) (.inl rfl) ?_;rintro _ rfl;refine k_yes (f81.trans (cgB g82)) (k_not rfl (k_pickF (f81.trans (cgB g82)) rfl ?_));exact ⟨rfl, cgB (Option.some.inj h), (by repeat (first | exact (Keep.refl _ _ _ _) | refine Keep.upd ?_ rfl _))⟩
      rintro σ88 _ _ ⟨rfl, f90, k89⟩;have f91 := (k89 0 rfl).trans f75;have f94 := (k89 13 rfl).trans f78;have f95 := (k89 4 rfl).trans f79;have f96 := (k89 3 rfl).trans f80;have k97 : Keep [2, 3, 4] 13 87 σ2 σ88 := Keep.trans k74 (Keep.sub k89 rfl);refine k_mov f90 (gL fun σ98 e99 => ?_);have k100 : Keep [2, 3, 4] 13 87 σ2 σ98 := by rw [e99]; repeat (first | exact k97 | refine Keep.upd ?_ rfl _)
      have f101 := (congrFun e99 0).trans f91;have f104 := (congrFun e99 13).trans f94;have f105 := (congrFun e99 4).trans f95;have f106 := (congrFun e99 3).trans f96;have f107 : σ98 45 = V (.bool y86) := (congrFun e99 45).trans rfl;obtain ⟨y112, e113, h⟩ := obind h;refine k_mid (fun σ' hp' _ => hp31 = hp' ∧ σ' 50 = V (.bool y112) ∧ Keep [] 46 50 σ98 σ') ?_ ?_
      ·rcases bt y86 with g108 | g108
       ·have h := ctrue e113 g108
        refine k_no (f107.trans (cgB g108)) rfl (k_no (f107.trans (cgB g108)) rfl (k_no (f107.trans (cgB g108)) rfl (k_no (f107.trans (cgB g108)) rfl (k_pickT (f107.trans (cgB g108)) rfl ?_))));exact ⟨rfl, cgB (Option.some.inj h), (by repeat (first | exact (Keep.refl _ _ _ _) | refine Keep.upd ?_ rfl _))⟩
       ·have h := cfalse e113 g108
        refine k_yes (f107.trans (cgB g108)) (k_fadrB (o := 5) f105 k32 (k_yes (f107.trans (cgB g108)) (k_loadB rfl k32 rfl (k_yes (f107.trans (cgB g108)) ?_))));obtain ⟨y109, e110, h⟩ := obind h;refine k_call (.cons rfl rfl (.cons rfl rfl (.cons rfl rfl .nil))) (s114  e110) (.inl rfl) ?_;rintro _ rfl;refine k_yes (f107.trans (cgB g108)) (k_not rfl (k_pickF (f107.trans (cgB g108)) rfl ?_));exact ⟨rfl, cgB (Option.some.inj h), (by repeat (first | exact (Keep.refl _ _ _ _) | refine Keep.upd ?_ rfl _))⟩
      rintro σ114 _ _ ⟨rfl, f116, k115⟩;have f117 := (k115 0 rfl).trans f101;have f120 := (k115 13 rfl).trans f104;have f121 := (k115 4 rfl).trans f105;have f122 := (k115 3 rfl).trans f106;have k123 : Keep [2, 3, 4] 13 87 σ2 σ114 := Keep.trans k100 (Keep.sub k115 rfl);refine k_mov f116 (k_nil (wpE_cond (p := y112) rfl (fun g124 => ?_) (fun g124 => ?_)))
      ·have h := ctrue h g124
       refine e_reg (k_mov rfl (k_nil (wpE_ret ?_)));cases h
       exact ⟨by decide, rfl, fun _ => e_ret (ct := 0) (.tmp rfl (back_sc rfl) .nil) rfl⟩
      ·have h := cfalse h g124
       refine e_reg (k_fadrB (o := 6) f121 k32 (k_loadB rfl k32 rfl ?_));obtain ⟨y125, e126, h⟩ := obind h;refine k_call (.cons rfl rfl (.cons rfl rfl (.cons rfl rfl .nil))) (s114  e126) (.inl rfl) ?_;rintro _ rfl;refine k_not rfl (k_mov rfl (k_nil (wpE_cond (p := (!y125)) rfl (fun g128 => ?_) (fun g128 => ?_))))
       ·have h := ctrue h g128
        refine e_reg (k_mov rfl (k_nil (wpE_ret ?_)));cases h
        exact ⟨by decide, rfl, fun _ => e_ret (ct := 0) (.tmp rfl (back_sc rfl) .nil) rfl⟩
       ·have h := cfalse h g128
        refine e_reg (k_fadrB (o := 6) f121 k32 (k_loadB rfl k32 rfl (k_bin rfl rfl rfl (k_fadrB (o := 5) f121 k32 (k_loadB rfl k32 rfl (k_bin rfl rfl rfl (k_eqB rfl rfl (k_mov rfl ?_))))))));obtain ⟨u129, e130, h⟩ := bnd_e h;refine k_nil (wpE_cond (p := u129) (cgB e130) (fun g131 => ?_) (fun g131 => ?_))
        ·have h := ctrue h g131
         refine e_reg (k_mov rfl (k_nil (wpE_ret ?_)));cases h
         exact ⟨by decide, rfl, fun _ => e_ret (ct := 0) (.tmp rfl (back_sc rfl) .nil) rfl⟩
        ·have h := cfalse h g131
         refine e_reg (k_fadrB (o := 7) f121 k32 (k_loadB rfl k32 rfl (k_bin rfl rfl rfl (k_mov rfl (gL fun σ132 e133 => ?_)))));have k134 : Keep [2, 3, 4] 13 87 σ2 σ132 := by rw [e133]; repeat (first | exact k123 | refine Keep.upd ?_ rfl _)
         have f135 := (congrFun e133 0).trans f117;have f138 := (congrFun e133 13).trans f120;have f139 := (congrFun e133 4).trans f121;have f140 := (congrFun e133 3).trans f122;have f141 : σ132 68 = V (.bool ((!(y20.Carrier == (([] : List UInt8)))))) := (congrFun e133 68).trans rfl;obtain ⟨y146, e147, h⟩ := obind h;refine k_mid (fun σ' hp' _ => hp31 = hp' ∧ σ' 73 = V (.bool y146) ∧ Keep [] 69 73 σ132 σ') ?_ ?_
         ·rcases bt ((!(y20.Carrier == (([] : List UInt8))))) with g142 | g142
          ·have h := ctrue e147 g142
           refine k_yes (f141.trans (cgB g142)) (k_fadrB (o := 7) f139 k32 (k_yes (f141.trans (cgB g142)) (k_loadB rfl k32 rfl (k_yes (f141.trans (cgB g142)) ?_))));obtain ⟨y143, e144, h⟩ := obind h;refine k_call (.cons rfl rfl .nil) (s111  e144) (.inl rfl) ?_;rintro _ rfl;refine k_yes (f141.trans (cgB g142)) (k_not rfl (k_pickT (f141.trans (cgB g142)) rfl ?_));exact ⟨rfl, cgB (Option.some.inj h), (by repeat (first | exact (Keep.refl _ _ _ _) | refine Keep.upd ?_ rfl _))⟩
          ·have h := cfalse e147 g142
           refine k_no (f141.trans (cgB g142)) rfl (k_no (f141.trans (cgB g142)) rfl (k_no (f141.trans (cgB g142)) rfl (k_no (f141.trans (cgB g142)) rfl (k_pickF (f141.trans (cgB g142)) rfl ?_))));exact ⟨rfl, cgB (Option.some.inj h), (by repeat (first | exact (Keep.refl _ _ _ _) | refine Keep.upd ?_ rfl _))⟩
         rintro σ148 _ _ ⟨rfl, f150, k149⟩;have f151 := (k149 0 rfl).trans f135;have f154 := (k149 13 rfl).trans f138;have f155 := (k149 4 rfl).trans f139;have f156 := (k149 3 rfl).trans f140;have k157 : Keep [2, 3, 4] 13 87 σ2 σ148 := Keep.trans k134 (Keep.sub k149 rfl);refine k_mov f150 (k_nil (wpE_cond (p := y146) rfl (fun g158 => ?_) (fun g158 => ?_)))
         ·have h := ctrue h g158
          refine e_reg (k_mov rfl (k_nil (wpE_ret ?_)));cases h
          exact ⟨by decide, rfl, fun _ => e_ret (ct := 0) (.tmp rfl (back_sc rfl) .nil) rfl⟩
         ·have h := cfalse h g158
          refine e_regD (by kernel_rfl) (by kernel_rfl) (k_mov f156 (k_bin rfl rfl rfl (k_mov rfl (gL fun σ159 e160 => ?_))));have k161 : Keep [2, 3, 4] 13 87 σ2 σ159 := by rw [e160]; repeat (first | exact k157 | refine Keep.upd ?_ rfl _)
          have f162 := (congrFun e160 0).trans f151;have f165 := (congrFun e160 13).trans f154;have f166 := (congrFun e160 4).trans f155;have f167 := (congrFun e160 3).trans f156;have f168 : σ159 77 = V (.bool ((decide (w10 > ((0 : Int)))))) := (congrFun e160 77).trans rfl;obtain ⟨y179, e180, h⟩ := obind h;refine k_mid (fun σ' hp' _ => hp31 = hp' ∧ σ' 86 = V (.bool y179) ∧ Keep [] 78 86 σ159 σ') ?_ ?_
          ·rcases bt ((decide (w10 > ((0 : Int))))) with g169 | g169
           ·have h := ctrue e180 g169
            refine k_yes (f168.trans (cgB g169)) (k_mov f162 (k_yes (f168.trans (cgB g169)) (k_mov f167 (k_yes (f168.trans (cgB g169)) (k_bin rfl rfl rfl (k_yes (f168.trans (cgB g169)) ?_))))));obtain ⟨y170, e171, h⟩ := obind h;refine k_iadrL rfl (sv.any [] _ hx0) rfl e171 rfl fun p172 c173 q174 h175 => ?_;obtain ⟨_, rfl⟩ := uR1.inv h175;refine k_yes (f168.trans (cgB g169)) (k_loadL rfl q174 rfl (k_yes (f168.trans (cgB g169)) (k_loadB f166 k32 rfl (k_yes (f168.trans (cgB g169)) ?_))));obtain ⟨y176, e177, h⟩ := obind h;refine k_call (.cons rfl rfl (.cons rfl rfl .nil)) (s110 (cx0 := [IV.str y170.Id, IV.str y170.From, IV.str y170.To, IV.int .i64 y170.At, IV.int .i64 y170.Ring, IV.int .i64 y170.Talk, IV.int .i64 y170.How, IV.str y170.Carrier]) (uR1.mk) (cx1 := [IV.str y20.Id, IV.str y20.From, IV.str y20.To, IV.int .i64 y20.At, IV.int .i64 y20.Ring, IV.int .i64 y20.Talk, IV.int .i64 y20.How, IV.str y20.Carrier]) (uR1.mk) e177) (.inl rfl) ?_;rintro _ rfl;refine k_yes (f168.trans (cgB g169)) (k_bin rfl rfl rfl (k_pickT (f168.trans (cgB g169)) rfl ?_));exact ⟨rfl, cgB (Option.some.inj h), (by repeat (first | exact (Keep.refl _ _ _ _) | refine Keep.upd ?_ rfl _))⟩
           ·have h := cfalse e180 g169
            refine k_no (f168.trans (cgB g169)) rfl (k_no (f168.trans (cgB g169)) rfl (k_no (f168.trans (cgB g169)) rfl (k_no (f168.trans (cgB g169)) rfl (k_no (f168.trans (cgB g169)) rfl (k_no (f168.trans (cgB g169)) rfl (k_no (f168.trans (cgB g169)) rfl (k_no (f168.trans (cgB g169)) rfl (k_pickF (f168.trans (cgB g169)) rfl ?_))))))));exact ⟨rfl, cgB (Option.some.inj h), (by repeat (first | exact (Keep.refl _ _ _ _) | refine Keep.upd ?_ rfl _))⟩
          rintro σ181 _ _ ⟨rfl, f183, k182⟩;have f187 := (k182 13 rfl).trans f165;have k188 : Keep [2, 3, 4] 13 87 σ2 σ181 := Keep.trans k161 (Keep.sub k182 rfl);refine k_mov f183 (k_nil (wpE_cond (p := y179) rfl (fun g189 => ?_) (fun g189 => ?_)))
          ·have h := ctrue h g189
           refine e_reg (k_mov rfl (k_nil (wpE_ret ?_)));cases h
           exact ⟨by decide, rfl, fun _ => e_ret (ct := 0) (.tmp rfl (back_sc rfl) .nil) rfl⟩
          ·have h := cfalse h g189
           refine wpE_skip (e_last (k_bin f187 rfl rfl (k_mov rfl (k_nil ?_))));cases h
           exact ⟨rfl, rfl, (by repeat (first | exact k188 | refine Keep.upd ?_ rfl _)), r34⟩
   ·have h := cfalse h g19
    refine wpE_exit ?_;cases h
    exact ⟨by decide, rfl, (by repeat (first | exact k14 | refine Keep.upd ?_ rfl _)), r15⟩
  rcases e8 with _ | r1;rotate_left
  ·rintro _ _ _ _ ⟨rfl, hX⟩
   cases h
   exact hX 0
  rintro _ σ190 hp191 _ ⟨rfl, k192, r193⟩;have f194 := (k192 0 rfl).trans f4;refine e_reg (k_mkmap SK.str IV.bool fun a195 hp196 ct197 o198 r199 => ?_);refine k_mov rfl (k_nil (wpE_seq (e_reg (k_mov f194 (k_len rfl (sv.any [] _ hx0) (k_mov rfl (k_nil (wpE_block (gE fun σ200 e201 => ?_)))))))));have f202 := (congrFun e201 0).trans f194;have f203 : σ200 5 = .v (.c a195) := (congrFun e201 5).trans rfl;have f204 : σ200 89 = .v (.c ((I vx0))) := (congrFun e201 89).trans rfl;have f205 : σ200 90 = V (.int .i64 ((List.length x0 : Int))) := (congrFun e201 90).trans rfl;have f206 : σ200 91 = V (.int .i64 ((0 : Int))) := (congrFun e201 91).trans rfl;obtain ⟨y247, h208, h⟩ := obind h;refine wpE_mono (e_loop h208 (I := fun s σ' hp' _ => (∃ a, σ' 5 = .v (.c a) ∧ mp [88] SK.str IV.bool hp' a s.1) ∧ σ' 91 = V (.int .i64 s.2) ∧ Keep [7] 91 98 σ200 σ' ∧ Fr [7, 88] hp196 hp') (X := fun e ex σ' hp' _ => ex = .exit 3 ∧ (∃ a, σ' 5 = .v (.c a) ∧ mp [88] SK.str IV.bool hp' a e) ∧ Keep [7] 91 98 σ200 σ' ∧ Fr [7, 88] hp196 hp') ⟨⟨_, f203, ((o198).wide rfl)⟩, f206, Keep.refl _ _ _ _, Fr.refl _ _⟩ ?_) ?_
  ·clear h
   rintro ⟨w209, w210⟩ o σ215 hp216 _ h ⟨⟨a211, f212, o213⟩, f214, k217, r218⟩;have h : uF53a x0 w209 w210 = some o := h; unfold uF53a at h;have f220 := (k217 89 rfl).trans f204;have f221 := (k217 90 rfl).trans f205;refine e_reg (k_bin f214 f221 rfl (k_nil (wpE_seq (wpE_cond (p := (decide (w210 < ((List.length x0 : Int))))) rfl (fun g222 => ?_) (fun g222 => ?_)))))
   ·have h := ctrue h g222
    refine wpE_skip (wpE_seq (wpE_block (e_reg ?_)));obtain ⟨y223, e224, h⟩ := obind h;refine k_iadrL f220 (sv.any [] _ hx0) f214 e224 rfl fun p225 c226 q227 h228 => ?_;obtain ⟨_, rfl⟩ := uR1.inv h228;refine k_loadL rfl q227 rfl (k_alloc fun g229 hp230 k231 r232 => ?_);have r233 : Fr [7, 88] hp196 hp230 := Fr.ext r218 r232 rfl;have o234 := o213.fr r232 rfl;refine k_storeB rfl rfl k231 rfl fun hp235 k236 r237 => ?_;have r238 : Fr [7, 88] hp196 hp235 := Fr.ext r233 r237 rfl;have o239 := o234.fr r237 rfl;refine k_nil (e_last (k_mov f212 (k_fadrB (o := 0) rfl k236 (k_loadB rfl k236 rfl (k_mupd (val := true) rfl o239 rfl rfl fun hp240 o241 r242 => ?_)))));obtain ⟨l243, e244, h⟩ := bnd_e h;have o245 := e244 ▸ o241;have r246 : Fr [7, 88] hp196 hp240 := Fr.ext r238 r242 rfl;refine k_nil (e_last (k_bin f214 rfl rfl (k_mov rfl (k_nil ?_))));cases h
    exact ⟨rfl, ⟨_, f212, ((o245).wide rfl)⟩, rfl, (by repeat (first | exact k217 | refine Keep.upd ?_ rfl _)), r246⟩
   ·have h := cfalse h g222
    refine wpE_exit ?_;cases h
    exact ⟨by decide, rfl, ⟨_, f212, ((o213).wide rfl)⟩, (by repeat (first | exact k217 | refine Keep.upd ?_ rfl _)), r218⟩
  rintro _ σ248 hp249 _ ⟨rfl, ⟨a252, f253, o254⟩, k250, r251⟩;have f255 := (k250 0 rfl).trans f202;refine wpE_seq (e_reg (k_mov f253 (k_lenM rfl o254 (k_mov f255 (k_len rfl (sv.any [] _ hx0) (k_bin rfl rfl rfl (k_nil (wpE_cond (p := (decide (((List.length y247 : Int)) < ((List.length x0 : Int))))) rfl (fun g256 => ?_) (fun g256 => ?_)))))))))
  ·have h := ctrue h g256
   refine e_reg (k_mov rfl (k_nil (wpE_ret ?_)));cases h
   exact e_ret (ct := 0) (.tmp rfl (back_sc rfl) .nil) rfl
  ·have h := cfalse h g256
   refine wpE_skip (e_reg (k_mov rfl (k_nil (wpE_ret ?_))));cases h
   exact e_ret (ct := 0) (.tmp rfl (back_sc rfl) .nil) rfl
theorem s11 {st : uT0} {c : List IV} {x1 : Int} {r : uT0 × List uT1} (hs : uR0.rp false c st) (h : uF11 st x1 = some r) : meth L 11 c [.c (I (.int .i64 x1))] (P11 r) := by
 refine fn_meth (fn := ir11) rfl (nlt rfl) fun hp0 k0 => ?_;unfold uF11 at h;obtain ⟨v1, rfl, q2⟩ := uR0.inv hs;refine e_reg (k_mov rfl (k_nil (wpE_seq (e_reg (k_mov rfl (k_nil (wpE_block (gE fun σ3 e4 => ?_))))))));have f5 : σ3 0 = .v (.c (.r (.ptr PB 0 0))) := (congrFun e4 0).trans rfl;have f6 : σ3 1 = V (.int .i64 x1) := (congrFun e4 1).trans rfl;have f7 : σ3 6 = V (.int .i64 ((0 : Int))) := (congrFun e4 6).trans rfl;obtain ⟨e8, h9, h⟩ := lret_e h;refine wpE_mono (e_loop h9 (I := fun s σ' hp' _ => σ' 6 = V (.int .i64 s.1) ∧ (∃ c, hp'.get PB = some (.cells 0 (c.map I)) ∧ uR0.rp false c s.2) ∧ Keep [] 4 15 σ3 σ' ∧ Fr [1000000] hp0 hp') (X := fun e ex σ' hp' _ => match e with | .inl e => ex = .exit 0 ∧ (∃ c, hp'.get PB = some (.cells 0 (c.map I)) ∧ uR0.rp false c e) ∧ Keep [] 4 15 σ3 σ' ∧ Fr [1000000] hp0 hp' | .inr r => ex = .ret ∧ ∀ ct, atEnd 16 [Res.tmp 4] (finM (P11 r)) .ret σ' hp' ct) ⟨f7, ⟨[v1, IV.int .i64 st.at_], k0, (uR0.mk q2)⟩, Keep.refl _ _ _ _, Fr.refl _ _⟩ ?_) ?_
 ·clear h
  rintro ⟨w10, w11⟩ o σ16 hp17 _ h ⟨f12, ⟨c13, k14, h15⟩, k18, r19⟩;have h : uF11a x1 w10 w11 = some o := h; unfold uF11a at h;have f20 := (k18 0 rfl).trans f5;have f21 := (k18 1 rfl).trans f6;obtain ⟨v22, rfl, q23⟩ := uR0.inv h15;refine e_reg (k_bin f12 rfl rfl (k_nil (wpE_seq (wpE_cond (p := (decide (w10 < ((5 : Int))))) rfl (fun g24 => ?_) (fun g24 => ?_)))))
  ·have h := ctrue h g24
   refine wpE_skip (wpE_seq (wpE_block (e_reg (k_mov f20 (k_mov f21 ?_)))));obtain ⟨y25, e26, h⟩ := obind h;refine k_meth (cells := [v22, IV.int .i64 w11.at_]) rfl k14 (.cons rfl rfl .nil) rfl (s52  (uR0.retag (f := false) (c := [v22, IV.int .i64 w11.at_]) (uR0.mk q23)) e26) fun v27 c28 hp29 h30 k31 r32 => ?_;obtain ⟨v33, rfl, q34, h35⟩ := h30;obtain ⟨v36, rfl, q37⟩ := uR0.inv h35;have r38 : Fr [1000000] hp0 hp29 := Fr.ext r19 r32 rfl;refine k_mov rfl (k_nil (e_reg (k_mov rfl ?_)));obtain ⟨y39, e40, h⟩ := obind h;refine k_call (.cons rfl rfl .nil) (s53 (sv_retag q34) e40) (.inl rfl) ?_;rintro _ rfl;refine k_bin rfl rfl rfl (k_nil (wpE_cond (p := (y39 == ((0 : Int)))) rfl (fun g42 => ?_) (fun g42 => ?_)))
   ·have h := ctrue h g42
    refine e_reg (k_mov rfl (k_mov rfl (k_nil (wpE_ret ?_))));cases h
    exact ⟨by decide, rfl, fun _ => e_retM (ct := 0) (cells' := [v36, IV.int .i64 y25.1.at_]) k31 (fun b g => (.cons (backC_inl fun q => nomatch q) (.cons (backC_inl fun q => nomatch q) .nil))) (fun b g => (.tmp rfl (back_c (backC_inl fun q => nomatch q)) .nil)) ⟨v33, rfl, q34, (uR0.mk q37)⟩⟩
   ·have h := cfalse h g42
    refine wpE_skip (e_last (k_bin f12 rfl rfl (k_mov rfl (k_nil ?_))));cases h
    exact ⟨rfl, rfl, ⟨[v36, IV.int .i64 y25.1.at_], k31, (uR0.mk q37)⟩, (by repeat (first | exact k18 | refine Keep.upd ?_ rfl _)), r38⟩
  ·have h := cfalse h g24
   refine wpE_exit ?_;cases h
   exact ⟨by decide, rfl, ⟨[v22, IV.int .i64 w11.at_], k14, (uR0.mk q23)⟩, (by repeat (first | exact k18 | refine Keep.upd ?_ rfl _)), r19⟩
 rcases e8 with y43 | r1;rotate_left
 ·rintro _ _ _ _ ⟨rfl, hX⟩
  cases h
  exact hX 0
 rintro _ σ44 hp45 _ ⟨rfl, ⟨c48, k49, h50⟩, k46, r47⟩;obtain ⟨v52, rfl, q53⟩ := uR0.inv h50;refine e_reg (k_mov rfl (k_nil (wpE_ret ?_)));cases h
 exact e_retM (ct := 0) (cells' := [v52, IV.int .i64 y43.at_]) k49 (fun b g => (.cons (backC_inl fun q => nomatch q) (.cons (backC_inl fun q => nomatch q) .nil))) (fun b g => (.tmp rfl (back_c (backC_inl fun q => nomatch q)) .nil)) ⟨IV.nilS, rfl, (sv_nil uR1 true), (uR0.mk q53)⟩
theorem s15 {x0 : List Int} {vx0 : IV} {r : Int} (hx0 : sv (Rep.int .i64) false vx0 x0) (h : uF15 x0 = some r) : pc L 15 [.c (I vx0)] true (P15 r) := by
 refine fn_pure (fn := ir15) rfl (nlt rfl) fun lent hl => ?_;unfold uF15 at h;refine e_reg (k_mov rfl (k_nil (wpE_seq (e_reg (k_mov rfl (k_len rfl (sv.any [] _ hx0) (k_mov rfl (k_nil (wpE_block ?_)))))))));refine gE fun σ1 e2 => ?_;have f3 : σ1 5 = .v (.c ((I vx0))) := (congrFun e2 5).trans rfl;have f4 : σ1 6 = V (.int .i64 ((List.length x0 : Int))) := (congrFun e2 6).trans rfl;have f5 : σ1 7 = V (.int .i64 ((0 : Int))) := (congrFun e2 7).trans rfl;obtain ⟨e6, h7, h⟩ := lret_e h;refine wpE_mono (e_loop h7 (I := fun s σ' hp' _ => σ' 7 = V (.int .i64 s) ∧ Keep [2, 4] 7 14 σ1 σ' ∧ [] = hp') (X := fun e ex σ' hp' _ => match e with | .inl e => ex = .exit 0 ∧ Keep [2, 4] 7 14 σ1 σ' ∧ [] = hp' | .inr r => ex = .ret ∧ ∀ ct, atEnd 15 [Res.tmp 2] (fin lent (P15 r)) .ret σ' hp' ct) ⟨f5, Keep.refl _ _ _ _, rfl⟩ ?_) ?_
 ·clear h
  rintro w8 o σ10 _ _ h ⟨f9, k12, rfl⟩;have h : uF15a x0 w8 = some o := h; unfold uF15a at h;have f14 := (k12 5 rfl).trans f3;have f15 := (k12 6 rfl).trans f4;refine e_reg (k_bin f9 f15 rfl (k_nil (wpE_seq (wpE_cond (p := (decide (w8 < ((List.length x0 : Int))))) rfl (fun g16 => ?_) (fun g16 => ?_)))))
  ·have h := ctrue h g16
   refine wpE_skip (wpE_seq (wpE_block (e_reg ?_)));obtain ⟨y17, e18, h⟩ := obind h;refine k_iadrL f14 (sv.any [] _ hx0) f9 e18 rfl fun p19 c20 q21 h22 => ?_;obtain rfl : c20 = [IV.int .i64 y17] := h22;refine k_loadL rfl q21 rfl (k_mov rfl (k_nil (e_reg (k_mov rfl (k_bin rfl rfl rfl (k_nil (wpE_cond (p := (y17 != ((0 : Int)))) rfl (fun g23 => ?_) (fun g23 => ?_))))))))
   ·have h := ctrue h g23
    refine e_reg (k_mov rfl (k_mov rfl (k_nil (wpE_ret ?_))));cases h
    exact ⟨by decide, rfl, fun _ => e_ret (ct := 0) (.tmp rfl (back_sc rfl) .nil) rfl⟩
   ·have h := cfalse h g23
    refine wpE_skip (e_last (k_bin f9 rfl rfl (k_mov rfl (k_nil ?_))));cases h
    exact ⟨rfl, rfl, (by repeat (first | exact k12 | refine Keep.upd ?_ rfl _)), rfl⟩
  ·have h := cfalse h g16
   refine wpE_exit ?_;cases h
   exact ⟨by decide, rfl, (by repeat (first | exact k12 | refine Keep.upd ?_ rfl _)), rfl⟩
 rcases e6 with _ | r1;rotate_left
 ·rintro _ _ _ _ ⟨rfl, hX⟩
  cases h
  exact hX 0
 rintro _ σ24 _ _ ⟨rfl, k26, rfl⟩;refine e_reg (k_mov rfl (k_nil (wpE_ret ?_)));cases h
 exact e_ret (ct := 0) (.tmp rfl (back_sc rfl) .nil) rfl
theorem s59 {x0 : List Int} {vx0 : IV} {x1 : Int} {r : Int} (hx0 : sv (Rep.int .i64) false vx0 x0) (h : uF59 x0 x1 = some r) : pc L 59 [.c (I vx0), .c (I (.int .i64 x1))] true (P59 r) := by
 refine fn_pure (fn := ir59) rfl (nlt rfl) fun lent hl => ?_;unfold uF59 at h;refine e_reg (k_mov rfl (k_nil (wpE_seq (e_reg (k_mov rfl (k_len rfl (sv.any [] _ hx0) (k_mov rfl (k_nil (wpE_block ?_)))))))));refine gE fun σ1 e2 => ?_;have f3 : σ1 0 = .v (.c ((I vx0))) := (congrFun e2 0).trans rfl;have f4 : σ1 1 = V (.int .i64 x1) := (congrFun e2 1).trans rfl;have f5 : σ1 7 = V (.int .i64 ((List.length x0 : Int))) := (congrFun e2 7).trans rfl;have f6 : σ1 8 = V (.int .i64 ((0 : Int))) := (congrFun e2 8).trans rfl;obtain ⟨e7, h8, h⟩ := lret_e h;refine wpE_mono (e_loop h8 (I := fun s σ' hp' _ => σ' 8 = V (.int .i64 s) ∧ Keep [4, 5] 8 18 σ1 σ' ∧ [] = hp') (X := fun e ex σ' hp' _ => match e with | .inl e => ex = .exit 0 ∧ Keep [4, 5] 8 18 σ1 σ' ∧ [] = hp' | .inr r => ex = .ret ∧ ∀ ct, atEnd 19 [Res.tmp 4] (fin lent (P59 r)) .ret σ' hp' ct) ⟨f6, Keep.refl _ _ _ _, rfl⟩ ?_) ?_
 ·clear h
  rintro w9 o σ11 _ _ h ⟨f10, k13, rfl⟩;have h : uF59a x0 x1 w9 = some o := h; unfold uF59a at h;have f15 := (k13 0 rfl).trans f3;have f16 := (k13 1 rfl).trans f4;have f17 := (k13 7 rfl).trans f5;refine e_reg (k_bin f10 f17 rfl (k_nil (wpE_seq (wpE_cond (p := (decide (w9 < ((List.length x0 : Int))))) rfl (fun g18 => ?_) (fun g18 => ?_)))))
  ·have h := ctrue h g18
   refine wpE_skip (wpE_seq (wpE_block (e_reg (k_mov f10 (k_mov rfl (k_nil (e_reg (k_mov f16 (k_mov f15 ?_)))))))));refine k_mov rfl ?_;obtain ⟨y19, e20, h⟩ := obind h;refine k_iadrL rfl (sv.any [] _ hx0) rfl e20 rfl fun p21 c22 q23 h24 => ?_;obtain rfl : c22 = [IV.int .i64 y19] := h24;refine k_loadL rfl q23 rfl (k_bin rfl rfl rfl (k_nil (wpE_cond (p := (x1 == y19)) rfl (fun g25 => ?_) (fun g25 => ?_))))
   ·have h := ctrue h g25
    refine e_reg (k_mov rfl (k_mov rfl (k_nil (wpE_ret ?_))));cases h
    exact ⟨by decide, rfl, fun _ => e_ret (ct := 0) (.tmp rfl (back_sc rfl) .nil) rfl⟩
   ·have h := cfalse h g25
    refine wpE_skip (e_last (k_bin f10 rfl rfl (k_mov rfl (k_nil ?_))));cases h
    exact ⟨rfl, rfl, (by repeat (first | exact k13 | refine Keep.upd ?_ rfl _)), rfl⟩
  ·have h := cfalse h g18
   refine wpE_exit ?_;cases h
   exact ⟨by decide, rfl, (by repeat (first | exact k13 | refine Keep.upd ?_ rfl _)), rfl⟩
 rcases e7 with _ | r1;rotate_left
 ·rintro _ _ _ _ ⟨rfl, hX⟩
  cases h
  exact hX 0
 rintro _ σ26 _ _ ⟨rfl, k28, rfl⟩;refine e_reg (k_mov rfl (k_nil (wpE_ret ?_)));cases h
 exact e_ret (ct := 0) (.tmp rfl (back_sc rfl) .nil) rfl
theorem s18 {x0 : List Int} {vx0 : IV} {x1 : Int} {r : Bool} (hx0 : sv (Rep.int .i64) false vx0 x0) (h : uF18 x0 x1 = some r) : pc L 18 [.c (I vx0), .c (I (.int .i64 x1))] true (P18 r) := by
 refine fn_pure (fn := ir18) rfl (nlt rfl) fun lent hl => ?_;unfold uF18 at h;refine e_reg (k_mov rfl (k_nil (e_reg (k_mov rfl (k_mov rfl ?_)))));obtain ⟨y1, e2, h⟩ := obind h;refine k_call (.cons rfl rfl (.cons rfl rfl .nil)) (s59 (sv_retag hx0) e2) (.inl rfl) ?_;rintro _ rfl;refine k_bin rfl rfl rfl (k_mov rfl ?_);obtain ⟨u4, e5, h⟩ := bnd_e h;refine k_nil (wpE_ret ?_);cases h
 exact e_ret (ct := 0) (.tmp (cgB e5) (back_sc rfl) .nil) rfl
theorem ready_run : isTrue1 (run tabs fns (xRun kx) 40 20 19 [] []) = true := by kernel_rfl
theorem s19 {r : Bool} (h : uF19 = some r) : pc L 19 [] true (P19 r) := by
 cases h
 exact pc_true ready_run
theorem s20 {st : uT0} {c : List IV} {r : uT0 × List uT3} (hs : uR0.rp false c st) (h : uF20 st = some r) : meth L 20 c [] (P20 r) := by
 refine fn_meth (fn := ir20) rfl (nlt rfl) fun hp0 k0 => ?_;unfold uF20 at h;obtain ⟨v1, rfl, q2⟩ := uR0.inv hs;refine e_reg (k_mov rfl (k_nil (e_reg (k_mov rfl (k_nil (wpE_seq (e_reg (k_bslI (len := 4) (z := IV.str (([] : List UInt8))) (vs := [IV.str (([] : List UInt8)), IV.str (([102, 97, 114] : List UInt8)), IV.str (([104, 111, 109, 101] : List UInt8)), IV.str (([110, 101, 97, 114] : List UInt8))]) (.cons rfl (.cons rfl (.cons rfl (.cons rfl .nil)))) (by decide) rfl ?_))))))));have o3 : sv Rep.str true (.lit 0 [IV.str (([] : List UInt8)), IV.str (([102, 97, 114] : List UInt8)), IV.str (([104, 111, 109, 101] : List UInt8)), IV.str (([110, 101, 97, 114] : List UInt8))] 4) ([([] : List UInt8), ([102, 97, 114] : List UInt8), ([104, 111, 109, 101] : List UInt8), ([110, 101, 97, 114] : List UInt8)] : List (List UInt8)) := sv_lit true (⟨[IV.str (([] : List UInt8))], _, rfl, rfl, ⟨[IV.str (([102, 97, 114] : List UInt8))], _, rfl, rfl, ⟨[IV.str (([104, 111, 109, 101] : List UInt8))], _, rfl, rfl, ⟨[IV.str (([110, 101, 97, 114] : List UInt8))], _, rfl, rfl, rfl⟩⟩⟩⟩) rfl;refine k_len rfl (sv.any [] _ o3) (k_mov rfl (k_nil (wpE_block (gE fun σ4 e5 => ?_))));have f6 : σ4 0 = .v (.c (.r (.ptr PB 0 0))) := (congrFun e5 0).trans rfl;have f7 : σ4 3 = .v (.c ((I .nilS))) := (congrFun e5 3).trans rfl
 have f8 : σ4 6 = .v (.c ((I (.lit 0 [IV.str (([] : List UInt8)), IV.str (([102, 97, 114] : List UInt8)), IV.str (([104, 111, 109, 101] : List UInt8)), IV.str (([110, 101, 97, 114] : List UInt8))] 4)))) := (congrFun e5 6).trans rfl;have f9 : σ4 7 = V (.int .i64 ((List.length (([([] : List UInt8), ([102, 97, 114] : List UInt8), ([104, 111, 109, 101] : List UInt8), ([110, 101, 97, 114] : List UInt8)] : List (List UInt8))) : Int))) := (congrFun e5 7).trans rfl;have f10 : σ4 8 = V (.int .i64 ((0 : Int))) := (congrFun e5 8).trans rfl;obtain ⟨e11, h12, h⟩ := obind h;refine wpE_mono (e_loop h12 (I := fun s σ' hp' _ => (∃ a, σ' 3 = .v (.c a) ∧ so [30] uR3 true hp' a s.1) ∧ σ' 8 = V (.int .i64 s.2.1) ∧ (∃ c, hp'.get PB = some (.cells 0 (c.map I)) ∧ uR0.rp false c s.2.2) ∧ Keep [3, 5] 8 31 σ4 σ' ∧ Fr [30, 1000000] hp0 hp') (X := fun e ex σ' hp' _ => ex = .exit 0 ∧ (∃ a, σ' 3 = .v (.c a) ∧ so [30] uR3 true hp' a e.1) ∧ (∃ c, hp'.get PB = some (.cells 0 (c.map I)) ∧ uR0.rp false c e.2) ∧ Keep [3, 5] 8 31 σ4 σ' ∧ Fr [30, 1000000] hp0 hp') ⟨⟨_, f7, (so_nil _ _ _ _)⟩, f10, ⟨[v1, IV.int .i64 st.at_], k0, (uR0.mk q2)⟩, Keep.refl _ _ _ _, Fr.refl _ _⟩ ?_) ?_
 ·clear h
  rintro ⟨w13, w14, w15⟩ o σ23 hp24 _ h ⟨⟨a16, f17, o18⟩, f19, ⟨c20, k21, h22⟩, k25, r26⟩;have h : uF20a w13 w14 w15 = some o := h; unfold uF20a at h;have f27 := (k25 0 rfl).trans f6;have f28 := (k25 6 rfl).trans f8;have f29 := (k25 7 rfl).trans f9;obtain ⟨v30, rfl, q31⟩ := uR0.inv h22;refine e_reg (k_bin f19 f29 rfl (k_nil (wpE_seq (wpE_cond (p := (decide (w14 < ((List.length (([([] : List UInt8), ([102, 97, 114] : List UInt8), ([104, 111, 109, 101] : List UInt8), ([110, 101, 97, 114] : List UInt8)] : List (List UInt8))) : Int))))) rfl (fun g32 => ?_) (fun g32 => ?_)))))
  ·have h := ctrue h g32
   refine wpE_skip (wpE_seq (wpE_block (e_reg ?_)));obtain ⟨y33, e34, h⟩ := obind h;refine k_iadrL f28 (sv.any [] _ o3) f19 e34 rfl fun p35 c36 q37 h38 => ?_;obtain rfl : c36 = [IV.str y33] := h38;refine k_loadL rfl q37 rfl (k_mov rfl (k_nil (e_reg (k_mov f27 ?_))));obtain ⟨y39, e40, h⟩ := obind h;refine k_meth (cells := [v30, IV.int .i64 w15.at_]) rfl k21 (.cons rfl rfl .nil) rfl (s51  (uR0.retag (f := false) (c := [v30, IV.int .i64 w15.at_]) (uR0.mk q31)) e40) fun v41 c42 hp43 h44 k45 r46 => ?_;obtain ⟨rfl, h47⟩ := h44;obtain ⟨v48, rfl, q49⟩ := uR0.inv h47;have r50 : Fr [30, 1000000] hp0 hp43 := Fr.ext r26 r46 rfl;have o51 := o18.fr r46 rfl;refine k_nil (wpE_cond (p := y39.2) rfl (fun g52 => ?_) (fun g52 => ?_))
   ·have h := ctrue h g52
    refine e_last (k_mov f17 (k_mov rfl (k_mov f27 (k_bslI (len := 4) (z := IV.int .i64 ((0 : Int))) (vs := [IV.int .i64 ((100 : Int)), IV.int .i64 ((1000 : Int)), IV.int .i64 ((60000 : Int)), IV.int .i64 ((2592000000 : Int))]) (.cons rfl (.cons rfl (.cons rfl (.cons rfl .nil)))) (by decide) rfl ?_))));have o53 : sv (Rep.int .i64) true (.lit 0 [IV.int .i64 ((100 : Int)), IV.int .i64 ((1000 : Int)), IV.int .i64 ((60000 : Int)), IV.int .i64 ((2592000000 : Int))] 4) ([(100 : Int), (1000 : Int), (60000 : Int), (2592000000 : Int)] : List Int) := sv_lit true (⟨[IV.int .i64 ((100 : Int))], _, rfl, rfl, ⟨[IV.int .i64 ((1000 : Int))], _, rfl, rfl, ⟨[IV.int .i64 ((60000 : Int))], _, rfl, rfl, ⟨[IV.int .i64 ((2592000000 : Int))], _, rfl, rfl, rfl⟩⟩⟩⟩) rfl;obtain ⟨y54, e55, h⟩ := obind h;refine k_meth (cells := [v48, IV.int .i64 y39.1.at_]) rfl k45 (.cons rfl rfl .nil) rfl (s27  (uR0.retag (f := false) (c := [v48, IV.int .i64 y39.1.at_]) (uR0.mk q49)) (sv_retag o53) e55) fun v56 c57 hp58 h59 k60 r61 => ?_;obtain ⟨rfl, h62⟩ := h59;obtain ⟨v63, rfl, q64⟩ := uR0.inv h62;have r65 : Fr [30, 1000000] hp0 hp58 := Fr.ext r50 r61 rfl;have o66 := o51.fr r61 rfl;refine k_mov f27 (k_bslI (len := 4) (z := IV.int .i64 ((0 : Int))) (vs := [IV.int .i64 ((0 : Int)), IV.int .i64 ((1 : Int)), IV.int .i64 ((2 : Int)), IV.int .i64 ((3000 : Int))]) (.cons rfl (.cons rfl (.cons rfl (.cons rfl .nil)))) (by decide) rfl ?_)
    have o67 : sv (Rep.int .i64) true (.lit 0 [IV.int .i64 ((0 : Int)), IV.int .i64 ((1 : Int)), IV.int .i64 ((2 : Int)), IV.int .i64 ((3000 : Int))] 4) ([(0 : Int), (1 : Int), (2 : Int), (3000 : Int)] : List Int) := sv_lit true (⟨[IV.int .i64 ((0 : Int))], _, rfl, rfl, ⟨[IV.int .i64 ((1 : Int))], _, rfl, rfl, ⟨[IV.int .i64 ((2 : Int))], _, rfl, rfl, ⟨[IV.int .i64 ((3000 : Int))], _, rfl, rfl, rfl⟩⟩⟩⟩) rfl;obtain ⟨y68, e69, h⟩ := obind h;refine k_meth (cells := [v63, IV.int .i64 y54.1.at_]) rfl k60 (.cons rfl rfl .nil) rfl (s27  (uR0.retag (f := false) (c := [v63, IV.int .i64 y54.1.at_]) (uR0.mk q64)) (sv_retag o67) e69) fun v70 c71 hp72 h73 k74 r75 => ?_;obtain ⟨rfl, h76⟩ := h73;obtain ⟨v77, rfl, q78⟩ := uR0.inv h76;have r79 : Fr [30, 1000000] hp0 hp72 := Fr.ext r65 r75 rfl;have o80 := o66.fr r75 rfl;refine k_mov f27 (k_bslI (len := 4) (z := IV.int .i64 ((0 : Int))) (vs := [IV.int .i64 ((0 : Int)), IV.int .i64 ((1 : Int)), IV.int .i64 ((2 : Int)), IV.int .i64 ((1000 : Int))]) (.cons rfl (.cons rfl (.cons rfl (.cons rfl .nil)))) (by decide) rfl ?_)
    have o81 : sv (Rep.int .i64) true (.lit 0 [IV.int .i64 ((0 : Int)), IV.int .i64 ((1 : Int)), IV.int .i64 ((2 : Int)), IV.int .i64 ((1000 : Int))] 4) ([(0 : Int), (1 : Int), (2 : Int), (1000 : Int)] : List Int) := sv_lit true (⟨[IV.int .i64 ((0 : Int))], _, rfl, rfl, ⟨[IV.int .i64 ((1 : Int))], _, rfl, rfl, ⟨[IV.int .i64 ((2 : Int))], _, rfl, rfl, ⟨[IV.int .i64 ((1000 : Int))], _, rfl, rfl, rfl⟩⟩⟩⟩) rfl;obtain ⟨y82, e83, h⟩ := obind h;refine k_meth (cells := [v77, IV.int .i64 y68.1.at_]) rfl k74 (.cons rfl rfl .nil) rfl (s27  (uR0.retag (f := false) (c := [v77, IV.int .i64 y68.1.at_]) (uR0.mk q78)) (sv_retag o81) e83) fun v84 c85 hp86 h87 k88 r89 => ?_;obtain ⟨rfl, h90⟩ := h87;obtain ⟨v91, rfl, q92⟩ := uR0.inv h90;have r93 : Fr [30, 1000000] hp0 hp86 := Fr.ext r79 r89 rfl;have o94 := o80.fr r89 rfl;refine k_mov f27 (k_bslI (len := 3) (z := IV.int .i64 ((0 : Int))) (vs := [IV.int .i64 ((50 : Int)), IV.int .i64 ((1000 : Int)), IV.int .i64 ((100000 : Int))]) (.cons rfl (.cons rfl (.cons rfl .nil))) (by decide) rfl ?_);have o95 : sv (Rep.int .i64) true (.lit 0 [IV.int .i64 ((50 : Int)), IV.int .i64 ((1000 : Int)), IV.int .i64 ((100000 : Int))] 3) ([(50 : Int), (1000 : Int), (100000 : Int)] : List Int) := sv_lit true (⟨[IV.int .i64 ((50 : Int))], _, rfl, rfl, ⟨[IV.int .i64 ((1000 : Int))], _, rfl, rfl, ⟨[IV.int .i64 ((100000 : Int))], _, rfl, rfl, rfl⟩⟩⟩) rfl;obtain ⟨y96, e97, h⟩ := obind h
    refine k_meth (cells := [v91, IV.int .i64 y82.1.at_]) rfl k88 (.cons rfl rfl .nil) rfl (s27  (uR0.retag (f := false) (c := [v91, IV.int .i64 y82.1.at_]) (uR0.mk q92)) (sv_retag o95) e97) fun v98 c99 hp100 h101 k102 r103 => ?_;obtain ⟨rfl, h104⟩ := h101;obtain ⟨v105, rfl, q106⟩ := uR0.inv h104;have r107 : Fr [30, 1000000] hp0 hp100 := Fr.ext r93 r103 rfl;have o108 := o94.fr r103 rfl;refine k_build (.cons rfl (.cons rfl (.cons rfl (.cons rfl (.cons rfl .nil))))) rfl (k_bslL (len := 1) (vs := [IV.str y33, IV.int .i64 y54.2, IV.int .i64 y68.2, IV.int .i64 y82.2, IV.int .i64 y96.2]) (.cons rfl .nil) (by decide) rfl ?_);have o109 : sv uR3 true (.lit 0 [IV.str y33, IV.int .i64 y54.2, IV.int .i64 y68.2, IV.int .i64 y82.2, IV.int .i64 y96.2] 1) ([(⟨y33, y54.2, y68.2, y82.2, y96.2⟩ : uT3)] : List uT3) := sv_lit true (⟨[IV.str y33, IV.int .i64 y54.2, IV.int .i64 y68.2, IV.int .i64 y82.2, IV.int .i64 y96.2], _, rfl, (uR3.mk), rfl⟩) rfl;obtain ⟨y115, e116, h⟩ := obind h;refine k_app (E := uR3) (f := true) rfl o108 rfl (sv.any [] _ o109) e116 rfl fun a110 hp111 ct112 o113 r114 => ?_;have r117 : Fr [30, 1000000] hp0 hp111 := Fr.ext r107 r114 rfl;have k118 := (r114 PB (by decide)).trans k102;refine k_mov rfl (k_nil (e_last (k_bin f19 rfl rfl (k_mov rfl (k_nil ?_)))));cases h
    exact ⟨rfl, ⟨_, rfl, ((o113).wide rfl)⟩, rfl, ⟨[v105, IV.int .i64 y96.1.at_], k118, (uR0.mk q106)⟩, (by repeat (first | exact k25 | refine Keep.upd ?_ rfl _)), r117⟩
   ·have h := cfalse h g52
    refine wpE_skip (e_last (k_bin f19 rfl rfl (k_mov rfl (k_nil ?_))));cases h
    exact ⟨rfl, ⟨_, f17, ((o51).wide rfl)⟩, rfl, ⟨[v48, IV.int .i64 y39.1.at_], k45, (uR0.mk q49)⟩, (by repeat (first | exact k25 | refine Keep.upd ?_ rfl _)), r50⟩
  ·have h := cfalse h g32
   refine wpE_exit ?_;cases h
   exact ⟨by decide, rfl, ⟨_, f17, ((o18).wide rfl)⟩, ⟨[v30, IV.int .i64 w15.at_], k21, (uR0.mk q31)⟩, (by repeat (first | exact k25 | refine Keep.upd ?_ rfl _)), r26⟩
 obtain ⟨y119, y120⟩ := e11;rintro _ σ121 hp122 _ ⟨rfl, ⟨a125, f126, o127⟩, ⟨c128, k129, h130⟩, k123, r124⟩;obtain ⟨v132, rfl, q133⟩ := uR0.inv h130;refine e_reg (k_mov f126 (k_mov rfl (k_nil (wpE_ret ?_))));obtain ⟨v134, q135, q136⟩ : ∃ v, (∀ b g, backC hp122 [(PB, b, g)] false a125 = some (I v)) ∧ sv uR3 true v y119 := (o127.any).backM rfl;cases h
 exact e_retM (ct := 0) (cells' := [v132, IV.int .i64 y120.at_]) k129 (fun b g => (.cons (backC_inl fun q => nomatch q) (.cons (backC_inl fun q => nomatch q) .nil))) (fun b g => (.tmp rfl (back_c (q135 b g)) .nil)) ⟨v134, rfl, q136, (uR0.mk q133)⟩
theorem s132 {x0 x1 : List UInt8} {r : List UInt8} (h : uF132 x0 x1 = some r) : pc L 132 [.c (I (.str x0)), .c (I (.str x1))] true (P132 r) := by
 unfold uF132 at h;split at h
 ·rename_i hk
  cases h
  intro lent _;refine ⟨[.c (I (.str _))], ?_, rfl⟩;unfold pureCall;rw [show L 132 _ [] = some ([.c (I (.str (Lib.trimS x0 x1)))], []) from lim_x rfl _ _ (by show (if trimOk x0 x1 then _ else _) = _; rw [if_pos hk])];cases lent <;> rfl
 ·simp at h
theorem s179 {x0 : List UInt8} {r : Bool}  (h : uF179 x0 = some r) : pc L 179 [.c (I (.str x0))] true (P179 r) := by
 refine fn_pure (fn := ir179) rfl (nlt rfl) fun lent hl => ?_;unfold uF179 at h;refine e_reg (k_mov rfl (k_nil (e_reg (k_mov rfl ?_))));obtain ⟨y1, e2, h⟩ := obind h;refine k_call (.cons rfl rfl (.cons rfl rfl .nil)) (s132  e2) (.inl rfl) ?_;rintro _ rfl;refine k_bin rfl rfl rfl (k_mov rfl ?_);obtain ⟨u4, e5, h⟩ := bnd_e h;refine k_nil (wpE_ret ?_);cases h
 exact e_ret (ct := 0) (.tmp (cgB e5) (back_sc rfl) .nil) rfl
theorem s131 {x0 : List UInt8} {x1 : Int} {x2 : Int} {r : Bool}  (h : uF131 x0 x1 x2 = some r) : pc L 131 [.c (I (.str x0)), .c (I (.int .i64 x1)), .c (I (.int .i64 x2))] true (P131 r) := by
 refine fn_pure (fn := ir131) rfl (nlt rfl) fun lent hl => ?_;unfold uF131 at h;refine e_reg (k_mov rfl (k_nil (e_reg (k_mov rfl (k_lenS rfl (k_mov rfl (k_bin rfl rfl rfl (k_mov rfl (gL fun σ1 e2 => ?_)))))))));have f3 : σ1 0 = V (.str x0) := (congrFun e2 0).trans rfl;have f4 : σ1 2 = V (.int .i64 x2) := (congrFun e2 2).trans rfl;have f5 : σ1 11 = V (.bool ((decide (((List.length x0 : Int)) ≥ x1)))) := (congrFun e2 11).trans rfl;refine k_mid (fun σ' hp' _ => [] = hp' ∧ σ' 16 = V (.bool (((decide (((List.length x0 : Int)) ≥ x1)) && (decide (((List.length x0 : Int)) ≤ x2))))) ∧ Keep [] 12 16 σ1 σ') ?_ ?_
 ·rcases bt ((decide (((List.length x0 : Int)) ≥ x1))) with g6 | g6
  ·refine k_yes (f5.trans (cgB g6)) ?_
   refine k_mov f3 (k_yes (f5.trans (cgB g6)) (k_lenS rfl (k_yes (f5.trans (cgB g6)) (k_mov f4 (k_yes (f5.trans (cgB g6)) (k_bin rfl rfl rfl (k_pickT (f5.trans (cgB g6)) rfl ?_)))))));exact ⟨rfl, cgB (by rw [g6]; rfl), (by repeat (first | exact (Keep.refl _ _ _ _) | refine Keep.upd ?_ rfl _))⟩
  ·refine k_no (f5.trans (cgB g6)) rfl ?_
   refine k_no (f5.trans (cgB g6)) rfl (k_no (f5.trans (cgB g6)) rfl (k_no (f5.trans (cgB g6)) rfl (k_pickF (f5.trans (cgB g6)) rfl ?_)));exact ⟨rfl, cgB (by rw [g6]; rfl), (by repeat (first | exact (Keep.refl _ _ _ _) | refine Keep.upd ?_ rfl _))⟩
 rintro σ7 _ _ ⟨rfl, f9, k8⟩;have f10 := (k8 0 rfl).trans f3;refine k_mov f9 (gL fun σ11 e12 => ?_);have f13 := (congrFun e12 0).trans f10;have f14 : σ11 17 = V (.bool (((decide (((List.length x0 : Int)) ≥ x1)) && (decide (((List.length x0 : Int)) ≤ x2))))) := (congrFun e12 17).trans rfl;obtain ⟨y19, e20, h⟩ := obind h;refine k_mid (fun σ' hp' _ => [] = hp' ∧ σ' 20 = V (.bool y19) ∧ Keep [] 18 20 σ11 σ') ?_ ?_
 ·rcases bt (((decide (((List.length x0 : Int)) ≥ x1)) && (decide (((List.length x0 : Int)) ≤ x2)))) with g15 | g15
  ·have h := ctrue e20 g15
   refine k_yes (f14.trans (cgB g15)) (k_mov f13 (k_yes (f14.trans (cgB g15)) ?_));obtain ⟨y16, e17, h⟩ := obind h;refine k_call (.cons rfl rfl .nil) (s179  e17) (.inl rfl) ?_;rintro _ rfl;refine k_pickT (f14.trans (cgB g15)) rfl ?_;exact ⟨rfl, cgB (Option.some.inj h), (by repeat (first | exact (Keep.refl _ _ _ _) | refine Keep.upd ?_ rfl _))⟩
  ·have h := cfalse e20 g15
   refine k_no (f14.trans (cgB g15)) rfl (k_no (f14.trans (cgB g15)) rfl (k_pickF (f14.trans (cgB g15)) rfl ?_));exact ⟨rfl, cgB (Option.some.inj h), (by repeat (first | exact (Keep.refl _ _ _ _) | refine Keep.upd ?_ rfl _))⟩
 rintro σ21 _ _ ⟨rfl, f23, k22⟩;refine k_mov f23 (k_nil (wpE_ret ?_));cases h
 exact e_ret (ct := 0) (.tmp rfl (back_sc rfl) .nil) rfl
theorem s68 {x0 : List UInt8} {r : Bool}  (h : uF68 x0 = some r) : pc L 68 [.c (I (.str x0))] true (P68 r) := by
 refine fn_pure (fn := ir68) rfl (nlt rfl) fun lent hl => ?_;unfold uF68 at h;refine e_reg (k_mov rfl (k_nil (e_reg (k_mov rfl ?_))));obtain ⟨y1, e2, h⟩ := obind h;refine k_call (.cons rfl rfl (.cons rfl rfl .nil)) (s130  e2) (.inl rfl) ?_;rintro _ rfl;refine k_movT rfl (k_ext rfl rfl (k_ext rfl rfl (k_mov rfl (k_mov rfl (k_nil (e_reg (k_mov rfl (k_mov rfl (gL fun σ4 e5 => ?_)))))))));have f6 : σ4 3 = V (.str y1.1) := (congrFun e5 3).trans rfl;have f7 : σ4 11 = V (.bool y1.2) := (congrFun e5 11).trans rfl;obtain ⟨y12, e13, h⟩ := obind h;refine k_mid (fun σ' hp' _ => [] = hp' ∧ σ' 14 = V (.bool y12) ∧ Keep [] 12 14 σ4 σ') ?_ ?_
 ·rcases bt y1.2 with g8 | g8
  ·have h := ctrue e13 g8
   refine k_yes (f7.trans (cgB g8)) (k_mov f6 (k_yes (f7.trans (cgB g8)) ?_));obtain ⟨y9, e10, h⟩ := obind h;refine k_call (.cons rfl rfl (.cons rfl rfl (.cons rfl rfl .nil))) (s131  e10) (.inl rfl) ?_;rintro _ rfl;refine k_pickT (f7.trans (cgB g8)) rfl ?_;exact ⟨rfl, cgB (Option.some.inj h), (by repeat (first | exact (Keep.refl _ _ _ _) | refine Keep.upd ?_ rfl _))⟩
  ·have h := cfalse e13 g8
   refine k_no (f7.trans (cgB g8)) rfl (k_no (f7.trans (cgB g8)) rfl (k_pickF (f7.trans (cgB g8)) rfl ?_));exact ⟨rfl, cgB (Option.some.inj h), (by repeat (first | exact (Keep.refl _ _ _ _) | refine Keep.upd ?_ rfl _))⟩
 rintro σ14 _ _ ⟨rfl, f16, k15⟩;have f17 := (k15 3 rfl).trans f6;refine k_mov f16 (gL fun σ18 e19 => ?_);have f20 := (congrFun e19 3).trans f17;have f21 : σ18 15 = V (.bool y12) := (congrFun e19 15).trans rfl;obtain ⟨y25, e26, h⟩ := obind h;refine k_mid (fun σ' hp' _ => [] = hp' ∧ σ' 19 = V (.bool y25) ∧ Keep [] 16 19 σ18 σ') ?_ ?_
 ·rcases bt y12 with g22 | g22
  ·have h := ctrue e26 g22
   refine k_yes (f21.trans (cgB g22)) (k_mov f20 (k_yes (f21.trans (cgB g22)) ?_));obtain ⟨y23, e24, h⟩ := obind h;refine k_idxS rfl rfl e24 (k_yes (f21.trans (cgB g22)) (k_bin rfl rfl rfl (k_pickT (f21.trans (cgB g22)) rfl ?_)));exact ⟨rfl, cgB (Option.some.inj h), (by repeat (first | exact (Keep.refl _ _ _ _) | refine Keep.upd ?_ rfl _))⟩
  ·have h := cfalse e26 g22
   refine k_no (f21.trans (cgB g22)) rfl (k_no (f21.trans (cgB g22)) rfl (k_no (f21.trans (cgB g22)) rfl (k_pickF (f21.trans (cgB g22)) rfl ?_)));exact ⟨rfl, cgB (Option.some.inj h), (by repeat (first | exact (Keep.refl _ _ _ _) | refine Keep.upd ?_ rfl _))⟩
 rintro σ27 _ _ ⟨rfl, f29, k28⟩;refine k_mov f29 (k_nil (wpE_ret ?_));cases h
 exact e_ret (ct := 0) (.tmp rfl (back_sc rfl) .nil) rfl
theorem s69 {x0 : List UInt8} {r : Bool}  (h : uF69 x0 = some r) : pc L 69 [.c (I (.str x0))] true (P69 r) := by
 refine fn_pure (fn := ir69) rfl (nlt rfl) fun lent hl => ?_;unfold uF69 at h;refine e_reg (k_mov rfl (k_nil (e_reg (k_mov rfl (k_lenS rfl (k_bin rfl rfl rfl (k_mov rfl (gL fun σ1 e2 => ?_))))))));have f3 : σ1 0 = V (.str x0) := (congrFun e2 0).trans rfl;have f4 : σ1 6 = V (.bool ((decide (((List.length x0 : Int)) ≥ ((1 : Int)))))) := (congrFun e2 6).trans rfl;refine k_mid (fun σ' hp' _ => [] = hp' ∧ σ' 10 = V (.bool (((decide (((List.length x0 : Int)) ≥ ((1 : Int)))) && (decide (((List.length x0 : Int)) ≤ ((40 : Int))))))) ∧ Keep [] 7 10 σ1 σ') ?_ ?_
 ·rcases bt ((decide (((List.length x0 : Int)) ≥ ((1 : Int))))) with g5 | g5
  ·refine k_yes (f4.trans (cgB g5)) ?_
   refine k_mov f3 (k_yes (f4.trans (cgB g5)) (k_lenS rfl (k_yes (f4.trans (cgB g5)) (k_bin rfl rfl rfl (k_pickT (f4.trans (cgB g5)) rfl ?_)))));exact ⟨rfl, cgB (by rw [g5]; rfl), (by repeat (first | exact (Keep.refl _ _ _ _) | refine Keep.upd ?_ rfl _))⟩
  ·refine k_no (f4.trans (cgB g5)) rfl ?_
   refine k_no (f4.trans (cgB g5)) rfl (k_no (f4.trans (cgB g5)) rfl (k_pickF (f4.trans (cgB g5)) rfl ?_));exact ⟨rfl, cgB (by rw [g5]; rfl), (by repeat (first | exact (Keep.refl _ _ _ _) | refine Keep.upd ?_ rfl _))⟩
 rintro σ6 _ _ ⟨rfl, f8, k7⟩;have f9 := (k7 0 rfl).trans f3;refine k_mov f8 (gL fun σ10 e11 => ?_);have f12 := (congrFun e11 0).trans f9;have f13 : σ10 11 = V (.bool (((decide (((List.length x0 : Int)) ≥ ((1 : Int)))) && (decide (((List.length x0 : Int)) ≤ ((40 : Int))))))) := (congrFun e11 11).trans rfl;obtain ⟨y17, e18, h⟩ := obind h;refine k_mid (fun σ' hp' _ => [] = hp' ∧ σ' 15 = V (.bool y17) ∧ Keep [] 12 15 σ10 σ') ?_ ?_
 ·rcases bt (((decide (((List.length x0 : Int)) ≥ ((1 : Int)))) && (decide (((List.length x0 : Int)) ≤ ((40 : Int)))))) with g14 | g14
  ·have h := ctrue e18 g14
   refine k_yes (f13.trans (cgB g14)) (k_mov f12 (k_yes (f13.trans (cgB g14)) ?_));obtain ⟨y15, e16, h⟩ := obind h;refine k_idxS rfl rfl e16 (k_yes (f13.trans (cgB g14)) (k_bin rfl rfl rfl (k_pickT (f13.trans (cgB g14)) rfl ?_)));exact ⟨rfl, cgB (Option.some.inj h), (by repeat (first | exact (Keep.refl _ _ _ _) | refine Keep.upd ?_ rfl _))⟩
  ·have h := cfalse e18 g14
   refine k_no (f13.trans (cgB g14)) rfl (k_no (f13.trans (cgB g14)) rfl (k_no (f13.trans (cgB g14)) rfl (k_pickF (f13.trans (cgB g14)) rfl ?_)));exact ⟨rfl, cgB (Option.some.inj h), (by repeat (first | exact (Keep.refl _ _ _ _) | refine Keep.upd ?_ rfl _))⟩
 rintro σ19 _ _ ⟨rfl, f21, k20⟩;have f22 := (k20 0 rfl).trans f12;refine k_mov f21 (gL fun σ23 e24 => ?_);have f25 := (congrFun e24 0).trans f22;have f26 : σ23 16 = V (.bool y17) := (congrFun e24 16).trans rfl;obtain ⟨y30, e31, h⟩ := obind h;refine k_mid (fun σ' hp' _ => [] = hp' ∧ σ' 20 = V (.bool y30) ∧ Keep [] 17 20 σ23 σ') ?_ ?_
 ·rcases bt y17 with g27 | g27
  ·have h := ctrue e31 g27
   refine k_yes (f26.trans (cgB g27)) (k_mov f25 (k_yes (f26.trans (cgB g27)) ?_));obtain ⟨y28, e29, h⟩ := obind h;refine k_idxS rfl rfl e29 (k_yes (f26.trans (cgB g27)) (k_bin rfl rfl rfl (k_pickT (f26.trans (cgB g27)) rfl ?_)));exact ⟨rfl, cgB (Option.some.inj h), (by repeat (first | exact (Keep.refl _ _ _ _) | refine Keep.upd ?_ rfl _))⟩
  ·have h := cfalse e31 g27
   refine k_no (f26.trans (cgB g27)) rfl (k_no (f26.trans (cgB g27)) rfl (k_no (f26.trans (cgB g27)) rfl (k_pickF (f26.trans (cgB g27)) rfl ?_)));exact ⟨rfl, cgB (Option.some.inj h), (by repeat (first | exact (Keep.refl _ _ _ _) | refine Keep.upd ?_ rfl _))⟩
 rintro σ32 _ _ ⟨rfl, f34, k33⟩;have f35 := (k33 0 rfl).trans f25;refine k_mov f34 (gL fun σ36 e37 => ?_);have f38 := (congrFun e37 0).trans f35;have f39 : σ36 21 = V (.bool y30) := (congrFun e37 21).trans rfl;obtain ⟨y44, e45, h⟩ := obind h;refine k_mid (fun σ' hp' _ => [] = hp' ∧ σ' 25 = V (.bool y44) ∧ Keep [] 22 25 σ36 σ') ?_ ?_
 ·rcases bt y30 with g40 | g40
  ·have h := ctrue e45 g40
   refine k_yes (f39.trans (cgB g40)) (k_mov f38 (k_yes (f39.trans (cgB g40)) ?_));obtain ⟨y41, e42, h⟩ := obind h;refine k_call (.cons rfl rfl (.cons rfl rfl .nil)) (s132  e42) (.inl rfl) ?_;rintro _ rfl;refine k_yes (f39.trans (cgB g40)) (k_bin rfl rfl rfl (k_pickT (f39.trans (cgB g40)) rfl ?_));exact ⟨rfl, cgB (Option.some.inj h), (by repeat (first | exact (Keep.refl _ _ _ _) | refine Keep.upd ?_ rfl _))⟩
  ·have h := cfalse e45 g40
   refine k_no (f39.trans (cgB g40)) rfl (k_no (f39.trans (cgB g40)) rfl (k_no (f39.trans (cgB g40)) rfl (k_pickF (f39.trans (cgB g40)) rfl ?_)));exact ⟨rfl, cgB (Option.some.inj h), (by repeat (first | exact (Keep.refl _ _ _ _) | refine Keep.upd ?_ rfl _))⟩
 rintro σ46 _ _ ⟨rfl, f48, k47⟩;refine k_mov f48 (k_nil (wpE_ret ?_));cases h
 exact e_ret (ct := 0) (.tmp rfl (back_sc rfl) .nil) rfl
theorem s67 {x0 : List uT7} {vx0 : IV} {r : Int} (hx0 : sv uR7 false vx0 x0) (h : uF67b x0 = some r) : pc L 67 [.c (I vx0)] true (P67 r) := by
 refine fn_pure (fn := ir67) rfl (nlt rfl) fun lent hl => ?_;unfold uF67b at h;refine e_reg (k_mov rfl (k_nil (wpE_seq (e_reg (k_mov rfl (k_len rfl (sv.any [] _ hx0) (k_bin rfl rfl rfl (k_nil (wpE_cond (p := (decide (((List.length x0 : Int)) > ((500 : Int))))) rfl (fun g1 => ?_) (fun g1 => ?_))))))))))
 ·have h := ctrue h g1
  refine e_reg (k_mov rfl (k_nil (wpE_ret ?_)));cases h
  exact e_ret (ct := 0) (.tmp rfl (back_sc rfl) .nil) rfl
 ·have h := cfalse h g1
  refine wpE_skip (e_reg (k_mkmap SK.str IV.bool fun a2 hp3 ct4 o5 r6 => ?_));refine k_mov rfl (k_nil (wpE_seq (e_reg (k_mov rfl (k_len rfl (sv.any [] _ hx0) (k_mov rfl (k_nil (wpE_block (gE fun σ7 e8 => ?_)))))))));have f9 : σ7 0 = .v (.c ((I vx0))) := (congrFun e8 0).trans rfl;have f10 : σ7 3 = .v (.c a2) := (congrFun e8 3).trans rfl;have f11 : σ7 12 = .v (.c ((I vx0))) := (congrFun e8 12).trans rfl;have f12 : σ7 13 = V (.int .i64 ((List.length x0 : Int))) := (congrFun e8 13).trans rfl;have f13 : σ7 14 = V (.int .i64 ((0 : Int))) := (congrFun e8 14).trans rfl;obtain ⟨e14, h15, h⟩ := lret_e h;refine wpE_mono (e_loop h15 (I := fun s σ' hp' _ => (∃ a, σ' 3 = .v (.c a) ∧ mp [11] SK.str IV.bool hp' a s.1) ∧ σ' 14 = V (.int .i64 s.2) ∧ Keep [2, 4, 5, 7] 14 59 σ7 σ' ∧ Fr [5, 11] hp3 hp') (X := fun e ex σ' hp' _ => match e with | .inl e => ex = .exit 0 ∧ Keep [2, 4, 5, 7] 14 59 σ7 σ' ∧ Fr [5, 11] hp3 hp' | .inr r => ex = .ret ∧ ∀ ct, atEnd 60 [Res.tmp 2] (fin lent (P67 r)) .ret σ' hp' ct) ⟨⟨_, f10, ((o5).wide rfl)⟩, f13, Keep.refl _ _ _ _, Fr.refl _ _⟩ ?_) ?_
  ·clear h
   rintro ⟨w16, w17⟩ o σ22 hp23 _ h ⟨⟨a18, f19, o20⟩, f21, k24, r25⟩;have h : uF67 x0 w16 w17 = some o := h; unfold uF67 at h;have f26 := (k24 0 rfl).trans f9;have f27 := (k24 12 rfl).trans f11;have f28 := (k24 13 rfl).trans f12;refine e_reg (k_bin f21 f28 rfl (k_nil (wpE_seq (wpE_cond (p := (decide (w17 < ((List.length x0 : Int))))) rfl (fun g29 => ?_) (fun g29 => ?_)))))
   ·have h := ctrue h g29
    refine wpE_skip (wpE_seq (wpE_block (e_reg (k_mov f21 ?_))));obtain ⟨y30, e31, h⟩ := obind h;refine k_iadrL f27 (sv.any [] _ hx0) f21 e31 rfl fun p32 c33 q34 h35 => ?_;obtain ⟨v36, rfl, q37⟩ := uR7.inv h35;refine k_loadL rfl q34 rfl (k_alloc fun g38 hp39 k40 r41 => ?_);have r42 : Fr [5, 11] hp3 hp39 := Fr.ext r25 r41 rfl;have o43 := o20.fr r41 rfl;refine k_mov rfl (k_storeB rfl rfl k40 rfl fun hp44 k45 r46 => ?_);have r47 : Fr [5, 11] hp3 hp44 := Fr.ext r42 r46 rfl;have o48 := o43.fr r46 rfl;refine k_nil (wpE_seq (wpE_block (e_reg (k_fadrB (o := 0) rfl k45 (k_loadB rfl k45 rfl ?_)))));obtain ⟨y49, e50, h⟩ := obind h;refine k_call (.cons rfl rfl .nil) (s69  e50) (.inl rfl) ?_;rintro _ rfl;refine k_not rfl (k_mov rfl (k_nil (wpE_cond (p := (!y49)) rfl (fun g52 => ?_) (fun g52 => ?_))))
    ·have h := ctrue h g52
     refine e_reg (k_mov rfl (k_nil (wpE_ret ?_)));cases h
     exact ⟨by decide, rfl, fun _ => e_ret (ct := 0) (.tmp rfl (back_sc rfl) .nil) rfl⟩
    ·have h := cfalse h g52
     refine e_regD (by kernel_rfl) (by kernel_rfl) (k_mov rfl (k_bin rfl rfl rfl (k_mov rfl (gL fun σ53 e54 => ?_))));have k55 : Keep [2, 4, 5, 7] 14 59 σ7 σ53 := by rw [e54]; repeat (first | exact k24 | refine Keep.upd ?_ rfl _)
     have f56 := (congrFun e54 0).trans f26;have f57 := (congrFun e54 3).trans f19;have f60 := (congrFun e54 14).trans f21;have f61 : σ53 5 = .v (.c (.r (.ptr 5 g38 0))) := (congrFun e54 5).trans rfl;have f62 : σ53 4 = V (.int .i64 w17) := (congrFun e54 4).trans rfl;have f63 : σ53 27 = V (.bool ((decide (w17 > ((0 : Int)))))) := (congrFun e54 27).trans rfl;obtain ⟨y75, e76, h⟩ := obind h;refine k_mid (fun σ' hp' _ => hp44 = hp' ∧ σ' 37 = V (.bool y75) ∧ Keep [] 28 37 σ53 σ') ?_ ?_
     ·rcases bt ((decide (w17 > ((0 : Int))))) with g64 | g64
      ·have h := ctrue e76 g64
       refine k_yes (f63.trans (cgB g64)) (k_fadrB (o := 0) f61 k45 (k_yes (f63.trans (cgB g64)) (k_loadB rfl k45 rfl (k_yes (f63.trans (cgB g64)) (k_mov f56 (k_yes (f63.trans (cgB g64)) (k_mov f62 (k_yes (f63.trans (cgB g64)) (k_bin rfl rfl rfl ?_)))))))));refine k_yes (f63.trans (cgB g64)) ?_;obtain ⟨y65, e66, h⟩ := obind h;refine k_iadrL rfl (sv.any [] _ hx0) rfl e66 rfl fun p67 c68 q69 h70 => ?_;obtain ⟨v71, rfl, q72⟩ := uR7.inv h70;refine k_yes (f63.trans (cgB g64)) (k_fadrL (o := 0) rfl q69 (nlt rfl) fun p73 q74 => ?_);refine k_yes (f63.trans (cgB g64)) (k_loadL rfl q74 rfl (k_yes (f63.trans (cgB g64)) (k_bin rfl rfl rfl (k_pickT (f63.trans (cgB g64)) rfl ?_))));exact ⟨rfl, cgB (Option.some.inj h), (by repeat (first | exact (Keep.refl _ _ _ _) | refine Keep.upd ?_ rfl _))⟩
      ·have h := cfalse e76 g64
       refine k_no (f63.trans (cgB g64)) rfl (k_no (f63.trans (cgB g64)) rfl (k_no (f63.trans (cgB g64)) rfl (k_no (f63.trans (cgB g64)) rfl (k_no (f63.trans (cgB g64)) rfl (k_no (f63.trans (cgB g64)) rfl (k_no (f63.trans (cgB g64)) rfl (k_no (f63.trans (cgB g64)) rfl (k_no (f63.trans (cgB g64)) rfl (k_pickF (f63.trans (cgB g64)) rfl ?_)))))))));exact ⟨rfl, cgB (Option.some.inj h), (by repeat (first | exact (Keep.refl _ _ _ _) | refine Keep.upd ?_ rfl _))⟩
     rintro σ77 _ _ ⟨rfl, f79, k78⟩;have f81 := (k78 3 rfl).trans f57;have f84 := (k78 14 rfl).trans f60;have f85 := (k78 5 rfl).trans f61;have k86 : Keep [2, 4, 5, 7] 14 59 σ7 σ77 := Keep.trans k55 (Keep.sub k78 rfl);refine k_mov f79 (k_nil (wpE_cond (p := y75) rfl (fun g87 => ?_) (fun g87 => ?_)))
     ·have h := ctrue h g87
      refine e_reg (k_mov rfl (k_nil (wpE_ret ?_)));cases h
      exact ⟨by decide, rfl, fun _ => e_ret (ct := 0) (.tmp rfl (back_sc rfl) .nil) rfl⟩
     ·have h := cfalse h g87
      refine e_reg (k_fadrB (o := 1) f85 k45 (k_loadB rfl k45 rfl (k_len rfl (sv.any [] _ q37) (k_bin rfl rfl rfl (k_mov rfl ?_)))));obtain ⟨u88, e89, h⟩ := bnd_e h;refine k_nil (wpE_cond (p := u88) (cgB e89) (fun g90 => ?_) (fun g90 => ?_))
      ·have h := ctrue h g90
       refine e_reg (k_mov rfl (k_nil (wpE_ret ?_)));cases h
       exact ⟨by decide, rfl, fun _ => e_ret (ct := 0) (.tmp rfl (back_sc rfl) .nil) rfl⟩
      ·have h := cfalse h g90
       refine wpE_skip (e_reg (k_fadrB (o := 1) f85 k45 (k_loadB rfl k45 rfl (k_len rfl (sv.any [] _ q37) (k_mov rfl (k_nil (wpE_block (gE fun σ91 e92 => ?_))))))));have k93 : Keep [2, 4, 5, 7] 14 59 σ7 σ91 := by rw [e92]; repeat (first | exact k86 | refine Keep.upd ?_ rfl _)
       have f95 := (congrFun e92 3).trans f81;have f98 := (congrFun e92 14).trans f84;have f99 : σ91 44 = .v (.c ((I v36))) := (congrFun e92 44).trans rfl;have f100 : σ91 45 = V (.int .i64 ((List.length y30.Numbers : Int))) := (congrFun e92 45).trans rfl;have f101 : σ91 46 = V (.int .i64 ((0 : Int))) := (congrFun e92 46).trans rfl;obtain ⟨e102, h103, h⟩ := lret_e h;refine wpE_mono (e_loop h103 (I := fun s σ' hp' _ => (∃ a, σ' 3 = .v (.c a) ∧ mp [11] SK.str IV.bool hp' a s.1) ∧ σ' 46 = V (.int .i64 s.2) ∧ Keep [2, 7] 46 58 σ91 σ' ∧ Fr [11] hp44 hp') (X := fun e ex σ' hp' _ => match e with | .inl e => ex = .exit 3 ∧ (∃ a, σ' 3 = .v (.c a) ∧ mp [11] SK.str IV.bool hp' a e) ∧ Keep [2, 7] 46 58 σ91 σ' ∧ Fr [11] hp44 hp' | .inr r => ex = .ret ∧ ∀ ct, atEnd 60 [Res.tmp 2] (fin lent (P67 r)) .ret σ' hp' ct) ⟨⟨_, f95, ((o48).wide rfl)⟩, f101, Keep.refl _ _ _ _, Fr.refl _ _⟩ ?_) ?_
       ·clear h
        rintro ⟨w104, w105⟩ o σ110 hp111 _ h ⟨⟨a106, f107, o108⟩, f109, k112, r113⟩;have h : uF67a y30 w104 w105 = some o := h; unfold uF67a at h;have f118 := (k112 44 rfl).trans f99;have f119 := (k112 45 rfl).trans f100;refine e_reg (k_bin f109 f119 rfl (k_nil (wpE_seq (wpE_cond (p := (decide (w105 < ((List.length y30.Numbers : Int))))) rfl (fun g122 => ?_) (fun g122 => ?_)))))
        ·have h := ctrue h g122
         refine wpE_skip (wpE_seq (wpE_block (e_reg ?_)));obtain ⟨y123, e124, h⟩ := obind h;refine k_iadrL f118 (sv.any [] _ q37) f109 e124 rfl fun p125 c126 q127 h128 => ?_;obtain rfl : c126 = [IV.str y123] := h128;refine k_loadL rfl q127 rfl (k_mov rfl (k_nil (wpE_seq (e_reg (k_mov rfl ?_)))));obtain ⟨y129, e130, h⟩ := obind h;refine k_call (.cons rfl rfl .nil) (s68  e130) (.inl rfl) ?_;rintro _ rfl;refine k_not rfl (k_nil (wpE_cond (p := (!y129)) rfl (fun g132 => ?_) (fun g132 => ?_)))
         ·have h := ctrue h g132
          refine e_reg (k_mov rfl (k_nil (wpE_ret ?_)));cases h
          exact ⟨by decide, rfl, fun _ => e_ret (ct := 0) (.tmp rfl (back_sc rfl) .nil) rfl⟩
         ·have h := cfalse h g132
          refine wpE_skip (wpE_seq (e_reg (k_mov f107 (k_mov rfl (k_lkp (z := false) rfl o108 rfl rfl (k_nil (wpE_cond (p := ((mget w104 y123).getD false)) rfl (fun g133 => ?_) (fun g133 => ?_))))))))
          ·have h := ctrue h g133
           refine e_reg (k_mov rfl (k_nil (wpE_ret ?_)));cases h
           exact ⟨by decide, rfl, fun _ => e_ret (ct := 0) (.tmp rfl (back_sc rfl) .nil) rfl⟩
          ·have h := cfalse h g133
           refine wpE_skip (e_last (k_mov f107 (k_mov rfl (k_mupd (val := true) rfl o108 rfl rfl fun hp134 o135 r136 => ?_))));obtain ⟨l137, e138, h⟩ := bnd_e h;have o139 := e138 ▸ o135;have r141 : Fr [11] hp44 hp134 := Fr.ext r113 r136 rfl;refine k_nil (e_last (k_bin f109 rfl rfl (k_mov rfl (k_nil ?_))));cases h
           exact ⟨rfl, ⟨_, f107, ((o139).wide rfl)⟩, rfl, (by repeat (first | exact k112 | refine Keep.upd ?_ rfl _)), r141⟩
        ·have h := cfalse h g122
         refine wpE_exit ?_;cases h
         exact ⟨by decide, rfl, ⟨_, f107, ((o108).wide rfl)⟩, (by repeat (first | exact k112 | refine Keep.upd ?_ rfl _)), r113⟩
       rcases e102 with y142 | r1;rotate_left
       ·rintro _ _ _ _ ⟨rfl, hX⟩
        cases h
        exact ⟨by decide, rfl, hX⟩
       rintro _ σ143 hp144 _ ⟨rfl, ⟨a147, f148, o149⟩, k145, r146⟩;have f153 := (k145 14 rfl).trans f98;have k154 : Keep [2, 4, 5, 7] 14 59 σ7 σ143 := Keep.trans k93 (Keep.sub k145 rfl);have r155 : Fr [5, 11] hp3 hp144 := Fr.ext r47 r146 rfl;refine e_last (k_bin f153 rfl rfl (k_mov rfl (k_nil ?_)));cases h
       exact ⟨rfl, ⟨_, f148, ((o149).wide rfl)⟩, rfl, (by repeat (first | exact k154 | refine Keep.upd ?_ rfl _)), r155⟩
   ·have h := cfalse h g29
    refine wpE_exit ?_;cases h
    exact ⟨by decide, rfl, (by repeat (first | exact k24 | refine Keep.upd ?_ rfl _)), r25⟩
  rcases e14 with _ | r1;rotate_left
  ·rintro _ _ _ _ ⟨rfl, hX⟩
   cases h
   exact hX 0
  rintro _ σ156 hp157 _ ⟨rfl, k158, r159⟩;refine e_reg (k_mov rfl (k_nil (wpE_ret ?_)));cases h
  exact e_ret (ct := 0) (.tmp rfl (back_sc rfl) .nil) rfl
theorem s120 {x0 : Int} {x1 : Int} {x2 : Int} {r : Bool}  (h : uF120 x0 x1 x2 = some r) : pc L 120 [.c (I (.int .i64 x0)), .c (I (.int .i64 x1)), .c (I (.int .i64 x2))] true (P120 r) := by
 refine fn_pure (fn := ir120) rfl (nlt rfl) fun lent hl => ?_;unfold uF120 at h;refine e_reg (k_mov rfl (k_nil (e_reg (k_mov rfl (k_mov rfl (k_bin rfl rfl rfl (k_mov rfl (gL fun σ1 e2 => ?_))))))));have f3 : σ1 0 = V (.int .i64 x0) := (congrFun e2 0).trans rfl;have f4 : σ1 2 = V (.int .i64 x2) := (congrFun e2 2).trans rfl;have f5 : σ1 10 = V (.bool ((decide (x0 ≥ x1)))) := (congrFun e2 10).trans rfl;refine k_mid (fun σ' hp' _ => [] = hp' ∧ σ' 14 = V (.bool (((decide (x0 ≥ x1)) && (decide (x0 ≤ x2))))) ∧ Keep [] 11 14 σ1 σ') ?_ ?_
 ·rcases bt ((decide (x0 ≥ x1))) with g6 | g6
  ·refine k_yes (f5.trans (cgB g6)) ?_
   refine k_mov f3 (k_yes (f5.trans (cgB g6)) (k_mov f4 (k_yes (f5.trans (cgB g6)) (k_bin rfl rfl rfl (k_pickT (f5.trans (cgB g6)) rfl ?_)))));exact ⟨rfl, cgB (by rw [g6]; rfl), (by repeat (first | exact (Keep.refl _ _ _ _) | refine Keep.upd ?_ rfl _))⟩
  ·refine k_no (f5.trans (cgB g6)) rfl ?_
   refine k_no (f5.trans (cgB g6)) rfl (k_no (f5.trans (cgB g6)) rfl (k_pickF (f5.trans (cgB g6)) rfl ?_));exact ⟨rfl, cgB (by rw [g6]; rfl), (by repeat (first | exact (Keep.refl _ _ _ _) | refine Keep.upd ?_ rfl _))⟩
 rintro σ7 _ _ ⟨rfl, f9, k8⟩;refine k_mov f9 ?_;obtain ⟨u10, e11, h⟩ := bnd_e h;refine k_nil (wpE_ret ?_);cases h
 exact e_ret (ct := 0) (.tmp (cgB e11) (back_sc rfl) .nil) rfl
theorem s170 {x0 : List UInt8} {r : Bool}  (h : uF170 x0 = some r) : pc L 170 [.c (I (.str x0))] true (P170 r) := by
 refine fn_pure (fn := ir170) rfl (nlt rfl) fun lent hl => ?_;unfold uF170 at h;refine e_reg (k_mov rfl (k_nil (e_reg (k_mov rfl ?_))));obtain ⟨y1, e2, h⟩ := obind h;refine k_call (.cons rfl rfl (.cons rfl rfl .nil)) (s130  e2) (.inl rfl) ?_;rintro _ rfl;refine k_movT rfl (k_ext rfl rfl (k_ext rfl rfl (k_mov rfl (k_mov rfl (k_nil (e_reg (k_mov rfl (k_bin rfl rfl rfl (k_mov rfl ?_)))))))));refine gL fun σ4 e5 => ?_;have f6 : σ4 3 = V (.str y1.1) := (congrFun e5 3).trans rfl;have f7 : σ4 4 = V (.bool y1.2) := (congrFun e5 4).trans rfl;have f8 : σ4 12 = V (.bool ((x0 == (([] : List UInt8))))) := (congrFun e5 12).trans rfl;obtain ⟨y40, e41, h⟩ := obind h;refine k_mid (fun σ' hp' _ => [] = hp' ∧ σ' 24 = V (.bool y40) ∧ Keep [] 13 24 σ4 σ') ?_ ?_
 ·rcases bt ((x0 == (([] : List UInt8)))) with g9 | g9
  ·have h := ctrue e41 g9
   refine k_no (f8.trans (cgB g9)) rfl (k_no (f8.trans (cgB g9)) rfl (k_noS rfl (k_noS rfl (k_noS rfl (k_no (f8.trans (cgB g9)) rfl (k_no (f8.trans (cgB g9)) rfl (k_noS rfl (k_noS rfl (k_noS rfl ?_)))))))));refine k_no (f8.trans (cgB g9)) rfl (k_pickT (f8.trans (cgB g9)) rfl ?_);exact ⟨rfl, cgB (Option.some.inj h), (by repeat (first | exact (Keep.refl _ _ _ _) | refine Keep.upd ?_ rfl _))⟩
  ·have h := cfalse e41 g9
   refine k_yes (f8.trans (cgB g9)) (k_mov f7 (k_yes (f8.trans (cgB g9)) (k_mov rfl (gL fun σ10 e11 => ?_))));have k12 : Keep [] 13 24 σ4 σ10 := by rw [e11]; repeat (first | exact (Keep.refl _ _ _ _) | refine Keep.upd ?_ rfl _)
   have f13 := (congrFun e11 3).trans f6;have f14 : σ10 12 = V (.bool false) := (congrFun e11 12).trans (f8.trans (cgB g9));have f15 : σ10 14 = V (.bool y1.2) := (congrFun e11 14).trans rfl;refine k_mid (fun σ' hp' _ => [] = hp' ∧ σ' 18 = V (.bool ((y1.2 && (decide (((List.length y1.1 : Int)) ≤ ((15 : Int))))))) ∧ Keep [] 15 18 σ10 σ') ?_ ?_
   ·rcases bt y1.2 with g16 | g16
    ·refine k_yes (f15.trans (cgB g16)) ?_
     refine k_mov f13 (k_yes (f15.trans (cgB g16)) (k_lenS rfl (k_yes (f15.trans (cgB g16)) (k_bin rfl rfl rfl (k_yes f14 (k_pickT (f15.trans (cgB g16)) rfl ?_))))));exact ⟨rfl, cgB (by rw [g16]; rfl), (by repeat (first | exact (Keep.refl _ _ _ _) | refine Keep.upd ?_ rfl _))⟩
    ·refine k_no (f15.trans (cgB g16)) rfl ?_
     refine k_no (f15.trans (cgB g16)) rfl (k_no (f15.trans (cgB g16)) rfl (k_yes f14 (k_pickF (f15.trans (cgB g16)) rfl ?_)));exact ⟨rfl, cgB (by rw [g16]; rfl), (by repeat (first | exact (Keep.refl _ _ _ _) | refine Keep.upd ?_ rfl _))⟩
   rintro σ17 _ _ ⟨rfl, f19, k18⟩;have f20 := (k18 3 rfl).trans f13;have f21 := (k18 12 rfl).trans f14;have k22 : Keep [] 13 24 σ4 σ17 := Keep.trans k12 (Keep.sub k18 rfl);refine k_yes f21 (k_mov f19 (gL fun σ23 e24 => ?_));have k25 : Keep [] 13 24 σ4 σ23 := by rw [e24]; repeat (first | exact k22 | refine Keep.upd ?_ rfl _)
   have f26 := (congrFun e24 3).trans f20;have f27 := (congrFun e24 12).trans f21;have f28 : σ23 19 = V (.bool ((y1.2 && (decide (((List.length y1.1 : Int)) ≤ ((15 : Int))))))) := (congrFun e24 19).trans rfl;obtain ⟨y33, e34, h⟩ := obind h;refine k_mid (fun σ' hp' _ => [] = hp' ∧ σ' 23 = V (.bool y33) ∧ Keep [] 20 23 σ23 σ') ?_ ?_
   ·rcases bt ((y1.2 && (decide (((List.length y1.1 : Int)) ≤ ((15 : Int)))))) with g29 | g29
    ·have h := ctrue e34 g29
     refine k_yes (f28.trans (cgB g29)) (k_mov f26 (k_yes (f28.trans (cgB g29)) ?_));obtain ⟨y30, e31, h⟩ := obind h;refine k_call (.cons rfl rfl (.cons rfl rfl .nil)) (s132  e31) (.inl rfl) ?_;rintro _ rfl;refine k_yes (f28.trans (cgB g29)) (k_bin rfl rfl rfl (k_yes f27 (k_pickT (f28.trans (cgB g29)) rfl ?_)));exact ⟨rfl, cgB (Option.some.inj h), (by repeat (first | exact (Keep.refl _ _ _ _) | refine Keep.upd ?_ rfl _))⟩
    ·have h := cfalse e34 g29
     refine k_no (f28.trans (cgB g29)) rfl (k_no (f28.trans (cgB g29)) rfl (k_no (f28.trans (cgB g29)) rfl (k_yes f27 (k_pickF (f28.trans (cgB g29)) rfl ?_))));exact ⟨rfl, cgB (Option.some.inj h), (by repeat (first | exact (Keep.refl _ _ _ _) | refine Keep.upd ?_ rfl _))⟩
   rintro σ35 _ _ ⟨rfl, f37, k36⟩;have f38 := (k36 12 rfl).trans f27;have k39 : Keep [] 13 24 σ4 σ35 := Keep.trans k25 (Keep.sub k36 rfl);refine k_pickF f38 f37 ?_;exact ⟨rfl, cgB (Option.some.inj h), (by repeat (first | exact k39 | refine Keep.upd ?_ rfl _))⟩
 rintro σ42 _ _ ⟨rfl, f44, k43⟩;refine k_mov f44 (k_nil (wpE_ret ?_));cases h
 exact e_ret (ct := 0) (.tmp rfl (back_sc rfl) .nil) rfl
end Go.Proofs.YtagbgmkocjfanaaGreatDoor
