/-
 The small code of functions comes to the Lean functions. Printed by a program of mine.
-/
import Derived.Test.YtagbgmkocjfanaaGreatDoorHM5Sc
namespace Go.Proofs.YtagbgmkocjfanaaGreatDoor
open Go Go.Abs
set_option maxRecDepth 100000
set_option maxHeartbeats 8000000
theorem s88 {x0 : T_api_Plan} {cx0 : List IV} {x1 : List UInt8} {r : List T_api_Context × Int} (hx0 : R_api_Plan.rp false cx0 x0) (h : F88_dialplan_open x0 x1 = some r) : pc L 88 [.agg (cx0.map I), .c (I (.str x1))] false (P88 r) := by
 refine fn_pure (fn := ir88) rfl (Nat.le_of_ble_eq_true rfl) fun lent hl => ?_
 unfold F88_dialplan_open at h
 obtain ⟨v1, v3, rfl, q2, q4⟩ := R_api_Plan.inv hx0
 refine e_reg ?_
 refine k_box rfl rfl fun g5 hp6 k7 r8 => ?_
 refine k_mov rfl (k_mov rfl (k_nil (wpE_seq (e_reg (k_loadB rfl k7 rfl ?_)))))
 obtain ⟨y9, e10, h⟩ := obind h
 refine k_call (.cons rfl rfl .nil) (s147 (cx0 := [(IV.retag 1 v1), (IV.retag 1 v3)]) (R_api_Plan.mk (sv_retag q2) (sv_retag q4)) e10) (.inl rfl) ?_
 rintro _ rfl
 refine k_mov rfl (k_nil (e_reg (k_mov rfl (k_bin rfl rfl rfl (k_nil ?_)))))
 refine wpE_cond (p := (y9 != ((0 : Int)))) rfl (fun g12 => ?_) (fun g12 => ?_)
 ·have h := ctrue h g12
  refine e_reg (k_mov rfl (k_mov rfl (k_mov rfl (k_nil (wpE_ret ?_)))))
  cases h
  exact e_ret (ct := 0) (.tmp rfl (back_c (backC_inl fun _ => sv_fresh (sv_nil R_api_Context true))) (.tmp rfl (back_sc rfl) .nil)) ⟨IV.nilS, rfl, (sv_weak (sv_nil R_api_Context true))⟩
 ·have h := cfalse h g12
  refine wpE_skip ?_
  show wpE _ _ _ _ _ _ _ _
  refine e_reg (k_loadB rfl k7 rfl (k_mov rfl ?_))
  obtain ⟨y13, e14, h⟩ := obind h
  refine k_call (.cons rfl rfl (.cons rfl rfl .nil)) (s148 (cx0 := [(IV.retag 1 v1), (IV.retag 1 v3)]) (R_api_Plan.mk (sv_retag q2) (sv_retag q4)) e14) (.inl rfl) ?_
  rintro _ rfl
  refine k_mov rfl (k_nil (wpE_seq (e_reg (k_mov rfl (k_bin rfl rfl rfl (k_nil ?_))))))
  refine wpE_cond (p := (decide (y13 < ((0 : Int))))) rfl (fun g16 => ?_) (fun g16 => ?_)
  ·have h := ctrue h g16
   refine e_reg (k_mov rfl (k_mov rfl (k_nil (wpE_ret ?_))))
   cases h
   exact e_ret (ct := 0) (.tmp rfl (back_c (backC_inl fun _ => sv_fresh (sv_nil R_api_Context true))) (.tmp rfl (back_sc rfl) .nil)) ⟨IV.nilS, rfl, (sv_weak (sv_nil R_api_Context true))⟩
  ·have h := cfalse h g16
   refine wpE_skip ?_
   show wpE _ _ _ _ _ _ _ _
   refine e_reg (k_mov rfl (k_nil (wpE_seq (e_reg (k_loadB rfl k7 rfl (k_mov rfl ?_))))))
   refine k_kill fun hp17 n18 r19 => ?_
   have k20 := (r19 2 (by decide)).trans k7
   obtain ⟨y21, e22, h⟩ := obind h
   refine k_callO (E := (Rep.int .i64)) (f1 := true) (ts := []) n18 (.cons rfl rfl (.cons rfl rfl (.cons rfl rfl .nil))) rfl rfl (on149 (cx0 := [(IV.retag 1 v1), (IV.retag 1 v3)]) (R_api_Plan.mk (sv_retag q2) (sv_retag q4)) e22) (fun rs h ⟨a, q1, q2⟩ => ⟨a, q1, q2⟩) rfl fun a23 hp24 o25 r26 => ?_
   have k27 := (r26 2 (by decide)).trans k20
   refine k_len rfl o25.any (k_mov rfl (k_nil (wpE_block ?_)))
   refine gE fun σ28 e29 => ?_
   have f30 : σ28 2 = .v (.c (.r (.ptr 2 g5 0))) := (congrFun e29 2).trans rfl
   have f31 : σ28 8 = .v (.c ((I .nilS))) := (congrFun e29 8).trans rfl
   have f32 : σ28 23 = .v (.c a23) := (congrFun e29 23).trans rfl
   have f33 : σ28 24 = V (.int .i64 ((List.length y21 : Int))) := (congrFun e29 24).trans rfl
   have f34 : σ28 25 = V (.int .i64 ((0 : Int))) := (congrFun e29 25).trans rfl
   obtain ⟨y80, h36, h⟩ := obind h
   refine wpE_mono (e_loop h36 (I := fun s σ' hp' _ => (∃ a, σ' 8 = .v (.c a) ∧ so [36] R_api_Context false hp' a s.1) ∧ σ' 25 = V (.int .i64 s.2) ∧ Keep [8, 10] 25 37 σ28 σ' ∧ Fr [36] hp24 hp') (X := fun e ex σ' hp' _ => ex = .exit 0 ∧ (∃ a, σ' 8 = .v (.c a) ∧ so [36] R_api_Context false hp' a e) ∧ Keep [8, 10] 25 37 σ28 σ' ∧ Fr [36] hp24 hp') ⟨⟨_, f31, (so_nil _ _ _ _)⟩, f34, Keep.refl _ _ _ _, Fr.refl _ _⟩ ?_) ?_
   ·clear h
    rintro ⟨w37, w38⟩ o σ43 hp44 _ h ⟨⟨a39, f40, o41⟩, f42, k45, r46⟩
    have h : F88_dialplan_open_l0 x0 y21 w37 w38 = some o := h; unfold F88_dialplan_open_l0 at h
    have f47 : σ43 2 = .v (.c (.r (.ptr 2 g5 0))) := (k45 2 rfl).trans f30
    have f48 : σ43 23 = .v (.c a23) := (k45 23 rfl).trans f32
    have f49 : σ43 24 = V (.int .i64 ((List.length y21 : Int))) := (k45 24 rfl).trans f33
    have o50 := o25.fr r46 rfl
    have k51 := (r46 2 (by decide)).trans k27
    show wpE _ _ _ _ _ _ _ _
    refine e_reg (k_bin f42 f49 rfl (k_nil (wpE_seq ?_)))
    refine wpE_cond (p := (decide (w38 < ((List.length y21 : Int))))) rfl (fun g52 => ?_) (fun g52 => ?_)
    ·have h := ctrue h g52
     refine wpE_skip ?_
     show wpE _ _ _ _ _ _ _ _
     refine wpE_seq (wpE_block (e_reg ?_))
     obtain ⟨y53, e54, h⟩ := obind h
     refine k_iadrL f48 o50.any f42 e54 rfl fun p55 c56 q57 h58 => ?_
     obtain rfl : c56 = [IV.int .i64 y53] := h58
     refine k_loadL rfl q57 rfl (k_mov rfl (k_nil (e_last (k_mov f40 (k_fadrB (o := 0) f47 k51 (k_loadB rfl k51 rfl (k_mov rfl ?_)))))))
     obtain ⟨y59, e60, h⟩ := obind h
     refine k_iadrL rfl (sv.any [] _ q2) rfl e60 rfl fun p61 c62 q63 h64 => ?_
     obtain ⟨v65, v67, rfl, q66, q68⟩ := R_api_Context.inv h64
     refine k_loadL rfl q63 rfl (k_bslL (len := 1) (vs := [IV.str y59.Key, v65, v67]) (.cons rfl .nil) (by decide) rfl ?_)
     have o69 : sv R_api_Context false (.lit 0 [IV.str y59.Key, v65, v67] 1) ([y59] : List T_api_Context) := sv_lit false (⟨[IV.str y59.Key, v65, v67], _, rfl, (R_api_Context.mk q66 q68), rfl⟩) rfl
     obtain ⟨y75, e76, h⟩ := obind h
     refine k_app (E := R_api_Context) (f := false) rfl o41 rfl (sv.any [] _ o69) e76 rfl fun a70 hp71 ct72 o73 r74 => ?_
     have r77 : Fr [36] hp24 hp71 := Fr.ext r46 r74 rfl
     refine k_mov rfl (k_nil ?_)
     show wpE _ _ _ _ _ _ _ _
     refine e_last (k_bin f42 rfl rfl (k_mov rfl (k_nil ?_)))
     cases h
     exact ⟨rfl, ⟨_, rfl, ((o73).wide rfl)⟩, rfl, (by repeat (first | exact k45 | refine Keep.upd ?_ rfl _)), r77⟩
    ·have h := cfalse h g52
     refine wpE_exit ?_
     cases h
     exact ⟨by decide, rfl, ⟨_, f40, ((o41).wide rfl)⟩, (by repeat (first | exact k45 | refine Keep.upd ?_ rfl _)), r46⟩
   rintro _ σ81 hp82 _ ⟨rfl, ⟨a85, f86, o87⟩, k83, r84⟩
   show wpE _ _ _ _ _ _ _ _
   refine e_reg (k_mov f86 (k_mov rfl (k_mov rfl (k_nil (wpE_ret ?_)))))
   obtain ⟨v88, q89, q90⟩ := (o87.any).back lent (fun q => absurd (hl q) (by decide)) [] rfl
   cases h
   exact e_ret (ct := 0) (.tmp rfl (back_c q89) (.tmp rfl (back_sc rfl) .nil)) ⟨v88, rfl, q90⟩
theorem s77 {x0 : T_api_Plan} {cx0 : List IV} {x1 : List UInt8} {x2 : List UInt8} {x3 : Int} {r : List T_api_Context × Int} (hx0 : R_api_Plan.rp false cx0 x0) (h : F77_dialplan_ask x0 x1 x2 x3 = some r) : pc L 77 [.agg (cx0.map I), .c (I (.str x1)), .c (I (.str x2)), .c (I (.int .i64 x3))] false (P77 r) := by
 refine fn_pure (fn := ir77) rfl (Nat.le_of_ble_eq_true rfl) fun lent hl => ?_
 unfold F77_dialplan_ask at h
 obtain ⟨v1, v3, rfl, q2, q4⟩ := R_api_Plan.inv hx0
 refine e_reg ?_
 refine k_box rfl rfl fun g5 hp6 k7 r8 => ?_
 refine k_mov rfl (k_mov rfl (k_nil (e_reg (k_loadB rfl k7 rfl (k_mov rfl ?_)))))
 obtain ⟨y9, e10, h⟩ := obind h
 refine k_call (.cons rfl rfl (.cons rfl rfl .nil)) (s88 (cx0 := [(IV.retag 1 v1), (IV.retag 1 v3)]) (R_api_Plan.mk (sv_retag q2) (sv_retag q4)) e10) (.inr rfl) ?_
 rintro _ ⟨v12, rfl, q13⟩
 refine k_movT rfl (k_ext rfl rfl (k_ext rfl rfl (k_mov rfl (k_mov rfl (k_nil (wpE_seq (e_reg ?_)))))))
 refine k_mov rfl (k_bin rfl rfl rfl (k_nil ?_))
 refine wpE_cond (p := (y9.2 != ((0 : Int)))) rfl (fun g14 => ?_) (fun g14 => ?_)
 ·have h := ctrue h g14
  refine e_reg (k_mov rfl (k_mov rfl (k_mov rfl (k_nil (wpE_ret ?_)))))
  cases h
  exact e_ret (ct := 0) (.tmp rfl (back_c (backC_inl fun _ => sv_fresh (sv_nil R_api_Context true))) (.tmp rfl (back_sc rfl) .nil)) ⟨IV.nilS, rfl, (sv_weak (sv_nil R_api_Context true))⟩
 ·have h := cfalse h g14
  refine wpE_skip ?_
  show wpE _ _ _ _ _ _ _ _
  refine wpE_seq (e_reg (k_mov rfl ?_))
  obtain ⟨y15, e16, h⟩ := obind h
  refine k_call (.cons rfl rfl (.cons rfl rfl .nil)) (s93  e16) (.inl rfl) ?_
  rintro _ rfl
  refine k_not rfl (k_nil ?_)
  refine wpE_cond (p := (!y15)) rfl (fun g18 => ?_) (fun g18 => ?_)
  ·have h := ctrue h g18
   refine e_reg (k_mov rfl (k_mov rfl (k_nil (wpE_ret ?_))))
   cases h
   exact e_ret (ct := 0) (.tmp rfl (back_c (backC_inl fun _ => sv_fresh (sv_nil R_api_Context true))) (.tmp rfl (back_sc rfl) .nil)) ⟨IV.nilS, rfl, (sv_weak (sv_nil R_api_Context true))⟩
  ·have h := cfalse h g18
   refine wpE_skip ?_
   show wpE _ _ _ _ _ _ _ _
   refine wpE_seq (e_reg (k_mov rfl ?_))
   obtain ⟨y19, e20, h⟩ := obind h
   refine k_call (.cons rfl rfl .nil) (s70  e20) (.inl rfl) ?_
   rintro _ rfl
   refine k_not rfl (k_nil ?_)
   refine wpE_cond (p := (!y19)) rfl (fun g22 => ?_) (fun g22 => ?_)
   ·have h := ctrue h g22
    refine e_reg (k_mov rfl (k_mov rfl (k_nil (wpE_ret ?_))))
    cases h
    exact e_ret (ct := 0) (.tmp rfl (back_c (backC_inl fun _ => sv_fresh (sv_nil R_api_Context true))) (.tmp rfl (back_sc rfl) .nil)) ⟨IV.nilS, rfl, (sv_weak (sv_nil R_api_Context true))⟩
   ·have h := cfalse h g22
    refine wpE_skip ?_
    show wpE _ _ _ _ _ _ _ _
    refine e_reg (k_mov rfl (k_mov rfl (k_mov rfl (k_nil (wpE_ret ?_)))))
    cases h
    exact e_ret (ct := 0) (.tmp rfl (back_c (backC_inl fun q => absurd (hl q) (by decide))) (.tmp rfl (back_sc rfl) .nil)) ⟨v12, rfl, q13⟩
theorem s139 {x0 : T_api_Hours} {cx0 : List IV} {x1 : List UInt8} {r : Bool} (hx0 : R_api_Hours.rp false cx0 x0) (h : F139_dialplan_counts_1 x0 x1 = some r) : pc L 139 [.agg (cx0.map I), .c (I (.lp 1 [IV.str x1]))] true (P139 r) := by
 refine fn_pure (fn := ir139) rfl (Nat.le_of_ble_eq_true rfl) fun lent hl => ?_
 unfold F139_dialplan_counts_1 at h
 obtain ⟨v1, v3, rfl, q2, q4⟩ := R_api_Hours.inv hx0
 refine e_reg ?_
 refine k_box rfl rfl fun g5 hp6 k7 r8 => ?_
 refine k_mov rfl (k_nil (e_reg (k_fadrB (o := 0) rfl k7 (k_loadB rfl k7 rfl (k_loadL rfl (ep_lp 1 [IV.str x1]) rfl (k_bin rfl rfl rfl (k_mov rfl ?_)))))))
 obtain ⟨u9, e10, h⟩ := bnd_e h
 refine k_nil (wpE_ret ?_)
 cases h
 exact e_ret (ct := 0) (.tmp (cgB e10) (back_sc rfl) .nil) rfl
theorem s190 {x0 : Int} {x1 : Int} {r : Int}  (h : F190_dialplan_floor x0 x1 = some r) : pc L 190 [.c (I (.int .i64 x0)), .c (I (.int .i64 x1))] true (P190 r) := by
 refine fn_pure (fn := ir190) rfl (Nat.le_of_ble_eq_true rfl) fun lent hl => ?_
 unfold F190_dialplan_floor at h
 refine e_reg (k_mov rfl (k_nil (e_reg (k_mov rfl (k_mov rfl ?_)))))
 obtain ⟨y1, e2, h⟩ := obind h
 refine k_quo rfl rfl e2 (k_mov rfl (k_nil (wpE_seq (e_reg (k_mov rfl (k_mov rfl ?_))))))
 obtain ⟨y3, e4, h⟩ := obind h
 refine k_rem rfl rfl e4 (k_bin rfl rfl rfl (k_nil ?_))
 refine gE fun σ5 e6 => ?_
 have f7 : σ5 5 = V (.int .i64 y1) := (congrFun e6 5).trans rfl
 have f8 : σ5 12 = V (.bool ((decide (y3 < ((0 : Int)))))) := (congrFun e6 12).trans rfl
 obtain ⟨y11, h10, h⟩ := obind h
 refine wpE_mono (Q := fun ex σ' hp' _ => ex = .normal ∧ σ' 5 = V (.int .i64 y11) ∧ Keep [] 5 14 σ5 σ' ∧ [] = hp') ?_ ?_
 ·clear h; have h := h10
  refine wpE_cond (p := (decide (y3 < ((0 : Int))))) f8 (fun g12 => ?_) (fun g12 => ?_)
  ·have h := ctrue h g12
   refine e_last (k_mov f7 (k_bin rfl rfl rfl (k_mov rfl ?_)))
   obtain ⟨u13, e14, h⟩ := bnd_e h
   refine k_nil ?_
   have q0 := Option.some.inj h
   obtain rfl := q0
   exact ⟨rfl, (cgI e14), (by repeat (first | exact (Keep.refl _ _ _ _) | refine Keep.upd ?_ rfl _)), rfl⟩
  ·have h := cfalse h g12
   refine wpE_skip ?_
   have q0 := Option.some.inj h
   obtain rfl := q0
   exact ⟨rfl, f7, (by repeat (first | exact (Keep.refl _ _ _ _) | refine Keep.upd ?_ rfl _)), rfl⟩
 rintro _ σ16 _ _ ⟨rfl, f15, k18, rfl⟩
 show wpE _ _ _ _ _ _ _ _
 refine e_reg (k_mov f15 (k_mov rfl (k_nil (wpE_ret ?_))))
 cases h
 exact e_ret (ct := 0) (.tmp rfl (back_sc rfl) .nil) rfl
theorem s140 {x0 : T_api_Hours} {cx0 : List IV} {x1 : Int} {r : Bool} (hx0 : R_api_Hours.rp false cx0 x0) (h : F140_dialplan_isOpen x0 x1 = some r) : pc L 140 [.agg (cx0.map I), .c (I (.int .i64 x1))] true (P140 r) := by
 refine fn_pure (fn := ir140) rfl (Nat.le_of_ble_eq_true rfl) fun lent hl => ?_
 unfold F140_dialplan_isOpen at h
 obtain ⟨v1, v3, rfl, q2, q4⟩ := R_api_Hours.inv hx0
 refine e_reg ?_
 refine k_box rfl rfl fun g5 hp6 k7 r8 => ?_
 refine k_mov rfl (k_nil (e_reg (k_mov rfl (k_fadrB (o := 1) rfl k7 (k_loadB rfl k7 rfl (k_bin rfl rfl rfl (k_bin rfl rfl rfl ?_)))))))
 refine k_mov rfl ?_
 obtain ⟨u9, e10, h⟩ := bnd_e h
 refine k_nil (e_reg (k_mov (cgI e10) ?_))
 obtain ⟨y11, e12, h⟩ := obind h
 refine k_call (.cons rfl rfl (.cons rfl rfl .nil)) (s190  e12) (.inl rfl) ?_
 rintro _ rfl
 refine k_mov rfl (k_nil (e_reg (k_mov (cgI e10) (k_mov rfl (k_bin rfl rfl rfl (k_bin rfl rfl rfl (k_quo rfl rfl (q := _) rfl ?_)))))))
 refine k_mov rfl ?_
 obtain ⟨u14, e15, h⟩ := bnd_e h
 refine k_nil (wpE_seq (e_reg (k_fadrB (o := 3) rfl k7 (k_loadB rfl k7 rfl (k_len rfl (sv.any [] _ q4) (k_mov rfl (k_nil ?_)))))))
 refine wpE_block ?_
 refine gE fun σ16 e17 => ?_
 have f18 : σ16 2 = .v (.c (.r (.ptr 2 g5 0))) := (congrFun e17 2).trans rfl
 have f19 : σ16 6 = V (.int .i64 y11) := (congrFun e17 6).trans rfl
 have f20 : σ16 7 = V (.int .i64 u14) := (congrFun e17 7).trans (cgI e15)
 have f21 : σ16 26 = .v (.c ((I v3))) := (congrFun e17 26).trans rfl
 have f22 : σ16 27 = V (.int .i64 ((List.length x0.Holidays : Int))) := (congrFun e17 27).trans rfl
 have f23 : σ16 28 = V (.int .i64 ((0 : Int))) := (congrFun e17 28).trans rfl
 obtain ⟨e24, h25, h⟩ := lret_e h
 refine wpE_mono (e_loop h25 (I := fun s σ' hp' _ => σ' 28 = V (.int .i64 s) ∧ Keep [4, 9] 28 46 σ16 σ' ∧ Fr [9] hp6 hp') (X := fun e ex σ' hp' _ => match e with | .inl e => ex = .exit 0 ∧ Keep [4, 9] 28 46 σ16 σ' ∧ Fr [9] hp6 hp' | .inr r => ex = .ret ∧ ∀ ct, atEnd 78 [Res.tmp 4] (fin lent (P140 r)) .ret σ' hp' ct) ⟨f23, Keep.refl _ _ _ _, Fr.refl _ _⟩ ?_) ?_
 ·clear h
  rintro w26 o σ28 hp29 _ h ⟨f27, k30, r31⟩
  have h : F140_dialplan_isOpen_l0 x0 y11 u14 w26 = some o := h; unfold F140_dialplan_isOpen_l0 at h
  have f33 : σ28 6 = V (.int .i64 y11) := (k30 6 rfl).trans f19
  have f34 : σ28 7 = V (.int .i64 u14) := (k30 7 rfl).trans f20
  have f35 : σ28 26 = .v (.c ((I v3))) := (k30 26 rfl).trans f21
  have f36 : σ28 27 = V (.int .i64 ((List.length x0.Holidays : Int))) := (k30 27 rfl).trans f22
  show wpE _ _ _ _ _ _ _ _
  refine e_reg (k_bin f27 f36 rfl (k_nil (wpE_seq ?_)))
  refine wpE_cond (p := (decide (w26 < ((List.length x0.Holidays : Int))))) rfl (fun g38 => ?_) (fun g38 => ?_)
  ·have h := ctrue h g38
   refine wpE_skip ?_
   show wpE _ _ _ _ _ _ _ _
   refine wpE_seq (wpE_block (e_reg ?_))
   obtain ⟨y39, e40, h⟩ := obind h
   refine k_iadrL f35 (sv.any [] _ q4) f27 e40 rfl fun p41 c42 q43 h44 => ?_
   obtain ⟨_, rfl⟩ := R_api_Holiday.inv h44
   refine k_loadL rfl q43 rfl ?_
   refine k_alloc fun g45 hp46 k47 r48 => ?_
   have r49 : Fr [9] hp6 hp46 := Fr.ext r31 r48 rfl
   refine k_storeB rfl rfl k47 rfl fun hp51 k52 r53 => ?_
   have r54 : Fr [9] hp6 hp51 := Fr.ext r49 r53 rfl
   refine k_nil (e_reg (k_fadrB (o := 0) rfl k52 (k_loadB rfl k52 rfl (k_mov f33 (k_bin rfl rfl rfl (k_nil ?_))))))
   refine wpE_cond (p := (y39.Day == y11)) rfl (fun g56 => ?_) (fun g56 => ?_)
   ·have h := ctrue h g56
    refine e_reg (k_mov f34 (k_fadrB (o := 1) rfl k52 (k_loadB rfl k52 rfl (k_bin rfl rfl rfl (k_mov rfl ?_)))))
    refine gL fun σ57 e58 => ?_
    have f60 : σ57 7 = V (.int .i64 u14) := (congrFun e58 7).trans f34
    have f61 : σ57 9 = .v (.c (.r (.ptr 9 g45 0))) := (congrFun e58 9).trans rfl
    have f62 : σ57 40 = V (.bool ((decide (u14 ≥ y39.From)))) := (congrFun e58 40).trans rfl
    refine k_mid (fun σ' hp' _ => hp51 = hp' ∧ σ' 45 = V (.bool (((decide (u14 ≥ y39.From)) && (decide (u14 < y39.To))))) ∧ Keep [] 41 45 σ57 σ') ?_ ?_
    ·rcases bt ((decide (u14 ≥ y39.From))) with g63 | g63
     ·refine k_yes (f62.trans (cgB g63)) ?_
      refine k_mov f60 (k_yes (f62.trans (cgB g63)) (k_fadrB (o := 2) f61 k52 (k_yes (f62.trans (cgB g63)) (k_loadB rfl k52 rfl (k_yes (f62.trans (cgB g63)) (k_bin rfl rfl rfl (k_pickT (f62.trans (cgB g63)) rfl ?_)))))))
      exact ⟨rfl, cgB (by rw [g63]; rfl), (by repeat (first | exact (Keep.refl _ _ _ _) | refine Keep.upd ?_ rfl _))⟩
     ·refine k_no (f62.trans (cgB g63)) rfl ?_
      refine k_no (f62.trans (cgB g63)) rfl (k_no (f62.trans (cgB g63)) rfl (k_no (f62.trans (cgB g63)) rfl (k_pickF (f62.trans (cgB g63)) rfl ?_)))
      exact ⟨rfl, cgB (by rw [g63]; rfl), (by repeat (first | exact (Keep.refl _ _ _ _) | refine Keep.upd ?_ rfl _))⟩
    rintro σ64 _ _ ⟨rfl, f66, k65⟩
    refine k_mov f66 ?_
    obtain ⟨u68, e69, h⟩ := bnd_e h
    refine k_nil (wpE_ret ?_)
    cases h
    exact ⟨by decide, rfl, fun _ => e_ret (ct := 0) (.tmp (cgB e69) (back_sc rfl) .nil) rfl⟩
   ·have h := cfalse h g56
    refine wpE_skip ?_
    show wpE _ _ _ _ _ _ _ _
    refine e_last (k_bin f27 rfl rfl (k_mov rfl (k_nil ?_)))
    cases h
    exact ⟨rfl, rfl, (by repeat (first | exact k30 | refine Keep.upd ?_ rfl _)), r54⟩
  ·have h := cfalse h g38
   refine wpE_exit ?_
   cases h
   exact ⟨by decide, rfl, (by repeat (first | exact k30 | refine Keep.upd ?_ rfl _)), r31⟩
 rcases e24 with _ | r1
 rotate_left
 ·rintro _ _ _ _ ⟨rfl, hX⟩
  cases h
  exact hX 0
 rintro _ σ70 hp71 _ ⟨rfl, k72, r73⟩
 have f74 : σ70 2 = .v (.c (.r (.ptr 2 g5 0))) := (k72 2 rfl).trans f18
 have f75 : σ70 6 = V (.int .i64 y11) := (k72 6 rfl).trans f19
 have f76 : σ70 7 = V (.int .i64 u14) := (k72 7 rfl).trans f20
 have k77 := (r73 2 (by decide)).trans k7
 show wpE _ _ _ _ _ _ _ _
 refine e_reg (k_mov f75 (k_mov f75 ?_))
 obtain ⟨y78, e79, h⟩ := obind h
 refine k_call (.cons rfl rfl (.cons rfl rfl .nil)) (s190  e79) (.inl rfl) ?_
 rintro _ rfl
 refine k_bin rfl rfl rfl (k_bin rfl rfl rfl (k_mov rfl (k_nil (wpE_seq (e_reg (k_fadrB (o := 2) f74 k77 (k_loadB rfl k77 rfl ?_)))))))
 refine k_len rfl (sv.any [] _ q2) (k_mov rfl (k_nil (wpE_block ?_)))
 refine gE fun σ81 e82 => ?_
 have f83 : σ81 7 = V (.int .i64 u14) := (congrFun e82 7).trans f76
 have f84 : σ81 10 = V (.int .i64 ((IntKind.wrap .i64 (y11 - ((IntKind.wrap .i64 (((7 : Int)) * y78))))))) := (congrFun e82 10).trans rfl
 have f85 : σ81 53 = .v (.c ((I v1))) := (congrFun e82 53).trans rfl
 have f86 : σ81 54 = V (.int .i64 ((List.length x0.Rows : Int))) := (congrFun e82 54).trans rfl
 have f87 : σ81 55 = V (.int .i64 ((0 : Int))) := (congrFun e82 55).trans rfl
 obtain ⟨e88, h89, h⟩ := lret_e h
 refine wpE_mono (e_loop h89 (I := fun s σ' hp' _ => σ' 55 = V (.int .i64 s) ∧ Keep [4, 12] 55 77 σ81 σ' ∧ Fr [12] hp71 hp') (X := fun e ex σ' hp' _ => match e with | .inl e => ex = .exit 2 ∧ Keep [4, 12] 55 77 σ81 σ' ∧ Fr [12] hp71 hp' | .inr r => ex = .ret ∧ ∀ ct, atEnd 78 [Res.tmp 4] (fin lent (P140 r)) .ret σ' hp' ct) ⟨f87, Keep.refl _ _ _ _, Fr.refl _ _⟩ ?_) ?_
 ·clear h
  rintro w90 o σ92 hp93 _ h ⟨f91, k94, r95⟩
  have h : F140_dialplan_isOpen_l1 x0 y11 u14 y78 w90 = some o := h; unfold F140_dialplan_isOpen_l1 at h
  have f96 : σ92 7 = V (.int .i64 u14) := (k94 7 rfl).trans f83
  have f97 : σ92 10 = V (.int .i64 ((IntKind.wrap .i64 (y11 - ((IntKind.wrap .i64 (((7 : Int)) * y78))))))) := (k94 10 rfl).trans f84
  have f98 : σ92 53 = .v (.c ((I v1))) := (k94 53 rfl).trans f85
  have f99 : σ92 54 = V (.int .i64 ((List.length x0.Rows : Int))) := (k94 54 rfl).trans f86
  show wpE _ _ _ _ _ _ _ _
  refine e_reg (k_bin f91 f99 rfl (k_nil (wpE_seq ?_)))
  refine wpE_cond (p := (decide (w90 < ((List.length x0.Rows : Int))))) rfl (fun g100 => ?_) (fun g100 => ?_)
  ·have h := ctrue h g100
   refine wpE_skip ?_
   show wpE _ _ _ _ _ _ _ _
   refine wpE_seq (wpE_block (e_reg ?_))
   obtain ⟨y101, e102, h⟩ := obind h
   refine k_iadrL f98 (sv.any [] _ q2) f91 e102 rfl fun p103 c104 q105 h106 => ?_
   obtain ⟨_, rfl⟩ := R_api_Row.inv h106
   refine k_loadL rfl q105 rfl ?_
   refine k_alloc fun g107 hp108 k109 r110 => ?_
   have r111 : Fr [12] hp71 hp108 := Fr.ext r95 r110 rfl
   refine k_storeB rfl rfl k109 rfl fun hp112 k113 r114 => ?_
   have r115 : Fr [12] hp71 hp112 := Fr.ext r111 r114 rfl
   refine k_nil (e_reg (k_fadrB (o := 0) rfl k113 (k_loadB rfl k113 rfl (k_mov f97 ?_))))
   obtain ⟨y116, e117, h⟩ := obind h
   refine k_shr rfl rfl e117 (k_bin rfl rfl rfl (k_bin rfl rfl rfl (k_mov rfl ?_)))
   refine gL fun σ118 e119 => ?_
   have k120 : Keep [4, 12] 55 77 σ81 σ118 := by rw [e119]; repeat (first | exact k94 | refine Keep.upd ?_ rfl _)
   have f121 : σ118 7 = V (.int .i64 u14) := (congrFun e119 7).trans f96
   have f125 : σ118 55 = V (.int .i64 w90) := (congrFun e119 55).trans f91
   have f126 : σ118 12 = .v (.c (.r (.ptr 12 g107 0))) := (congrFun e119 12).trans rfl
   have f127 : σ118 65 = V (.bool ((((gand .i64 y116 ((1 : Int)))) != ((0 : Int))))) := (congrFun e119 65).trans rfl
   refine k_mid (fun σ' hp' _ => hp112 = hp' ∧ σ' 70 = V (.bool (((((gand .i64 y116 ((1 : Int)))) != ((0 : Int))) && (decide (u14 ≥ y101.From))))) ∧ Keep [] 66 70 σ118 σ') ?_ ?_
   ·rcases bt ((((gand .i64 y116 ((1 : Int)))) != ((0 : Int)))) with g128 | g128
    ·refine k_yes (f127.trans (cgB g128)) ?_
     refine k_mov f121 (k_yes (f127.trans (cgB g128)) (k_fadrB (o := 1) f126 k113 (k_yes (f127.trans (cgB g128)) (k_loadB rfl k113 rfl (k_yes (f127.trans (cgB g128)) (k_bin rfl rfl rfl (k_pickT (f127.trans (cgB g128)) rfl ?_)))))))
     exact ⟨rfl, cgB (by rw [g128]; rfl), (by repeat (first | exact (Keep.refl _ _ _ _) | refine Keep.upd ?_ rfl _))⟩
    ·refine k_no (f127.trans (cgB g128)) rfl ?_
     refine k_no (f127.trans (cgB g128)) rfl (k_no (f127.trans (cgB g128)) rfl (k_no (f127.trans (cgB g128)) rfl (k_pickF (f127.trans (cgB g128)) rfl ?_)))
     exact ⟨rfl, cgB (by rw [g128]; rfl), (by repeat (first | exact (Keep.refl _ _ _ _) | refine Keep.upd ?_ rfl _))⟩
   rintro σ129 _ _ ⟨rfl, f131, k130⟩
   have f132 : σ129 7 = V (.int .i64 u14) := (k130 7 rfl).trans f121
   have f136 : σ129 55 = V (.int .i64 w90) := (k130 55 rfl).trans f125
   have f137 : σ129 12 = .v (.c (.r (.ptr 12 g107 0))) := (k130 12 rfl).trans f126
   have k138 : Keep [4, 12] 55 77 σ81 σ129 := Keep.trans k120 (Keep.sub k130 rfl)
   refine k_mov f131 ?_
   refine gL fun σ139 e140 => ?_
   have k141 : Keep [4, 12] 55 77 σ81 σ139 := by rw [e140]; repeat (first | exact k138 | refine Keep.upd ?_ rfl _)
   have f142 : σ139 7 = V (.int .i64 u14) := (congrFun e140 7).trans f132
   have f146 : σ139 55 = V (.int .i64 w90) := (congrFun e140 55).trans f136
   have f147 : σ139 12 = .v (.c (.r (.ptr 12 g107 0))) := (congrFun e140 12).trans f137
   have f148 : σ139 71 = V (.bool (((((gand .i64 y116 ((1 : Int)))) != ((0 : Int))) && (decide (u14 ≥ y101.From))))) := (congrFun e140 71).trans rfl
   refine k_mid (fun σ' hp' _ => hp112 = hp' ∧ σ' 76 = V (.bool ((((((gand .i64 y116 ((1 : Int)))) != ((0 : Int))) && (decide (u14 ≥ y101.From))) && (decide (u14 < y101.To))))) ∧ Keep [] 72 76 σ139 σ') ?_ ?_
   ·rcases bt (((((gand .i64 y116 ((1 : Int)))) != ((0 : Int))) && (decide (u14 ≥ y101.From)))) with g149 | g149
    ·refine k_yes (f148.trans (cgB g149)) ?_
     refine k_mov f142 (k_yes (f148.trans (cgB g149)) (k_fadrB (o := 2) f147 k113 (k_yes (f148.trans (cgB g149)) (k_loadB rfl k113 rfl (k_yes (f148.trans (cgB g149)) (k_bin rfl rfl rfl (k_pickT (f148.trans (cgB g149)) rfl ?_)))))))
     exact ⟨rfl, cgB (by rw [g149]; rfl), (by repeat (first | exact (Keep.refl _ _ _ _) | refine Keep.upd ?_ rfl _))⟩
    ·refine k_no (f148.trans (cgB g149)) rfl ?_
     refine k_no (f148.trans (cgB g149)) rfl (k_no (f148.trans (cgB g149)) rfl (k_no (f148.trans (cgB g149)) rfl (k_pickF (f148.trans (cgB g149)) rfl ?_)))
     exact ⟨rfl, cgB (by rw [g149]; rfl), (by repeat (first | exact (Keep.refl _ _ _ _) | refine Keep.upd ?_ rfl _))⟩
   rintro σ150 _ _ ⟨rfl, f152, k151⟩
   have f157 : σ150 55 = V (.int .i64 w90) := (k151 55 rfl).trans f146
   have k158 : Keep [4, 12] 55 77 σ81 σ150 := Keep.trans k141 (Keep.sub k151 rfl)
   refine k_nil ?_
   refine wpE_cond (p := (((((gand .i64 y116 ((1 : Int)))) != ((0 : Int))) && (decide (u14 ≥ y101.From))) && (decide (u14 < y101.To)))) f152 (fun g159 => ?_) (fun g159 => ?_)
   ·have h := ctrue h g159
    refine e_reg (k_mov rfl (k_nil (wpE_ret ?_)))
    cases h
    exact ⟨by decide, rfl, fun _ => e_ret (ct := 0) (.tmp rfl (back_sc rfl) .nil) rfl⟩
   ·have h := cfalse h g159
    refine wpE_skip ?_
    show wpE _ _ _ _ _ _ _ _
    refine e_last (k_bin f157 rfl rfl (k_mov rfl (k_nil ?_)))
    cases h
    exact ⟨rfl, rfl, (by repeat (first | exact k158 | refine Keep.upd ?_ rfl _)), r115⟩
  ·have h := cfalse h g100
   refine wpE_exit ?_
   cases h
   exact ⟨by decide, rfl, (by repeat (first | exact k94 | refine Keep.upd ?_ rfl _)), r95⟩
 rcases e88 with _ | r1
 rotate_left
 ·rintro _ _ _ _ ⟨rfl, hX⟩
  cases h
  exact hX 0
 rintro _ σ160 hp161 _ ⟨rfl, k162, r163⟩
 show wpE _ _ _ _ _ _ _ _
 refine e_reg (k_mov rfl (k_nil (wpE_ret ?_)))
 cases h
 exact e_ret (ct := 0) (.tmp rfl (back_sc rfl) .nil) rfl
theorem s80 {x0 : T_api_Plan} {cx0 : List IV} {x1 : List UInt8} {x2 : Int} {r : Bool} (hx0 : R_api_Plan.rp false cx0 x0) (h : F80_dialplan_counts x0 x1 x2 = some r) : pc L 80 [.agg (cx0.map I), .c (I (.str x1)), .c (I (.int .i64 x2))] true (P80 r) := by
 refine fn_pure (fn := ir80) rfl (Nat.le_of_ble_eq_true rfl) fun lent hl => ?_
 unfold F80_dialplan_counts at h
 obtain ⟨v1, v3, rfl, q2, q4⟩ := R_api_Plan.inv hx0
 refine e_reg ?_
 refine k_box rfl rfl fun g5 hp6 k7 r8 => ?_
 refine k_box rfl rfl fun g9 hp10 k11 r12 => ?_
 have k13 := (r12 3 (by decide)).trans k7
 refine k_mov rfl (k_nil (wpE_seq (e_reg (k_loadB rfl k11 rfl (k_bin rfl rfl rfl (k_nil ?_))))))
 refine wpE_cond (p := (x1 == (([] : List UInt8)))) rfl (fun g14 => ?_) (fun g14 => ?_)
 ·have h := ctrue h g14
  refine e_reg (k_mov rfl (k_nil (wpE_ret ?_)))
  cases h
  exact e_ret (ct := 0) (.tmp rfl (back_sc rfl) .nil) rfl
 ·have h := cfalse h g14
  refine wpE_skip ?_
  show wpE _ _ _ _ _ _ _ _
  refine e_reg (k_fadrB (o := 1) rfl k13 (k_loadB rfl k13 rfl (k_mkfn (f := 139) (.cons rfl rfl .nil) ?_)))
  obtain ⟨y15, e16, h⟩ := obind h
  refine k_call (.cons rfl rfl (.cons rfl (lend_clo (.ptr (cs := [IV.str x1]) k11 .nil)) .nil)) (s138 (sv_retag q4) (show CK254 L 139 [(.lp 1 [IV.str x1])] (fun a0 => F139_dialplan_counts_1 a0 x1) from fun a0 b0 q0 r h => s139 q0 h) e16) (.inl rfl) ?_
  rintro _ rfl
  refine k_mov rfl (k_nil (e_reg (k_fadrB (o := 1) rfl k13 (k_loadB rfl k13 rfl (k_mov rfl ?_)))))
  obtain ⟨y18, e19, h⟩ := obind h
  refine k_iadrL rfl (sv.any [] _ q4) rfl e19 rfl fun p20 c21 q22 h23 => ?_
  obtain ⟨v24, v26, rfl, q25, q27⟩ := R_api_Hours.inv h23
  refine k_loadL rfl q22 rfl (k_mov rfl ?_)
  obtain ⟨y28, e29, h⟩ := obind h
  refine k_call (.cons rfl rfl (.cons rfl rfl .nil)) (s140 (cx0 := [IV.str y18.Key, IV.int .i64 y18.Zone, (IV.retag 1 v24), (IV.retag 1 v26)]) (R_api_Hours.mk (sv_retag q25) (sv_retag q27)) e29) (.inl rfl) ?_
  rintro _ rfl
  refine k_mov rfl (k_nil (wpE_ret ?_))
  cases h
  exact e_ret (ct := 0) (.tmp rfl (back_sc rfl) .nil) rfl
theorem s214 {x0 : List UInt8} {x1 : List UInt8} {r : Int} (h : F214_cmps x0 x1 = some r) : pc L 214 [.c (I (.str x0)), .c (I (.str x1))] true (P214 r) := by
 cases h
 intro lent _
 refine ⟨[.c (I (.int .i64 _))], ?_, rfl⟩
 unfold pureCall
 rw [show L 214 _ [] = some ([.c (I (.int .i64 (Lib.compareBytes x0 x1)))], []) from lim_x rfl _ _ rfl]
 cases lent <;> rfl
theorem s172 {x0 : List UInt8} {x1 : List UInt8} {r : Int}  (h : F172_internal_bytealg_CompareString x0 x1 = some r) : pc L 172 [.c (I (.str x0)), .c (I (.str x1))] true (P172 r) := by
 refine fn_pure (fn := ir172) rfl (Nat.le_of_ble_eq_true rfl) fun lent hl => ?_
 unfold F172_internal_bytealg_CompareString at h
 refine e_reg (k_mov rfl (k_nil (e_reg (k_mov rfl (k_mov rfl ?_)))))
 obtain ⟨y1, e2, h⟩ := obind h
 refine k_call (.cons rfl rfl (.cons rfl rfl .nil)) (s214  e2) (.inl rfl) ?_
 rintro _ rfl
 refine k_mov rfl (k_nil (wpE_ret ?_))
 cases h
 exact e_ret (ct := 0) (.tmp rfl (back_sc rfl) .nil) rfl
theorem s119 {x0 : List UInt8} {x1 : List UInt8} {r : Int}  (h : F119_strings_Compare x0 x1 = some r) : pc L 119 [.c (I (.str x0)), .c (I (.str x1))] true (P119 r) := by
 refine fn_pure (fn := ir119) rfl (Nat.le_of_ble_eq_true rfl) fun lent hl => ?_
 unfold F119_strings_Compare at h
 refine e_reg (k_mov rfl (k_nil (e_reg (k_mov rfl (k_mov rfl ?_)))))
 obtain ⟨y1, e2, h⟩ := obind h
 refine k_call (.cons rfl rfl (.cons rfl rfl .nil)) (s172  e2) (.inl rfl) ?_
 rintro _ rfl
 refine k_mov rfl (k_nil (wpE_ret ?_))
 cases h
 exact e_ret (ct := 0) (.tmp rfl (back_sc rfl) .nil) rfl
end Go.Proofs.YtagbgmkocjfanaaGreatDoor

/-
 The small code of functions comes to the Lean functions. Printed by a program of mine.
-/
namespace Go.Proofs.YtagbgmkocjfanaaGreatDoor
open Go Go.Abs
set_option maxRecDepth 100000
set_option maxHeartbeats 8000000
theorem s150 {x0 : T_dialplan_pattern} {cx0 : List IV} {x1 : Int} {r : Int × List UInt8} (hx0 : R_dialplan_pattern.rp false cx0 x0) (h : F150_dialplan_pattern_rank x0 x1 = some r) : pc L 150 [.agg (cx0.map I), .c (I (.int .i64 x1))] true (P150 r) := by
 refine fn_pure (fn := ir150) rfl (Nat.le_of_ble_eq_true rfl) fun lent hl => ?_
 unfold F150_dialplan_pattern_rank at h
 obtain ⟨v1, rfl, q2⟩ := R_dialplan_pattern.inv hx0
 refine e_reg ?_
 refine k_box rfl rfl fun g3 hp4 k5 r6 => ?_
 refine k_mov rfl (k_mov rfl ?_)
 obtain ⟨u7, e8, h⟩ := bnd_e h
 refine k_nil (wpE_seq (wpE_block (e_reg (k_mov rfl (k_fadrB (o := 0) rfl k5 (k_loadB rfl k5 rfl (k_len rfl (sv.any [] _ q2) ?_)))))))
 refine k_bin rfl rfl rfl (k_mov rfl ?_)
 obtain ⟨u9, e10, h⟩ := bnd_e h
 refine k_nil ?_
 refine wpE_cond (p := u9) (cgB e10) (fun g11 => ?_) (fun g11 => ?_)
 ·have h := ctrue h g11
  refine e_reg (k_fadrB (o := 0) rfl k5 (k_loadB rfl k5 rfl (k_mov rfl ?_)))
  obtain ⟨y12, e13, h⟩ := obind h
  refine k_iadrL rfl (sv.any [] _ q2) rfl e13 rfl fun p14 c15 q16 h17 => ?_
  obtain rfl : c15 = [IV.int .u16 y12] := h17
  refine k_loadL rfl q16 rfl (k_mov rfl (k_nil (e_reg (k_mov rfl ?_))))
  obtain ⟨u18, e19, h⟩ := bnd_e h
  refine k_nil (wpE_seq (e_reg (k_mov rfl (k_nil (wpE_block ?_)))))
  refine gE fun σ20 e21 => ?_
  have f22 : σ20 6 = V (.int .u16 y12) := (congrFun e21 6).trans rfl
  have f23 : σ20 7 = V (.str u18) := (congrFun e21 7).trans (cgS e19)
  have f24 : σ20 20 = V (.int .i64 ((0 : Int))) := (congrFun e21 20).trans rfl
  obtain ⟨y44, h26, h⟩ := obind h
  refine wpE_mono (e_loop h26 (I := fun s σ' hp' _ => σ' 7 = V (.str s.1) ∧ σ' 20 = V (.int .i64 s.2) ∧ Keep [] 7 34 σ20 σ' ∧ hp4 = hp') (X := fun e ex σ' hp' _ => ex = .exit 1 ∧ σ' 7 = V (.str e) ∧ Keep [] 7 34 σ20 σ' ∧ hp4 = hp') ⟨f23, f24, Keep.refl _ _ _ _, rfl⟩ ?_) ?_
  ·clear h
   rintro ⟨w27, w28⟩ o σ31 _ _ h ⟨f29, f30, k33, rfl⟩
   have h : F150_dialplan_pattern_rank_l0 y12 w27 w28 = some o := h; unfold F150_dialplan_pattern_rank_l0 at h
   have f35 : σ31 6 = V (.int .u16 y12) := (k33 6 rfl).trans f22
   show wpE _ _ _ _ _ _ _ _
   refine e_reg (k_bin f30 rfl rfl (k_nil (wpE_seq ?_)))
   refine wpE_cond (p := (decide (w28 < ((12 : Int))))) rfl (fun g36 => ?_) (fun g36 => ?_)
   ·have h := ctrue h g36
    refine wpE_skip ?_
    show wpE _ _ _ _ _ _ _ _
    refine wpE_seq (wpE_block (e_reg (k_mov f30 (k_mov rfl (k_nil (e_reg (k_mov f35 ?_)))))))
    refine k_mov rfl ?_
    obtain ⟨y37, e38, h⟩ := obind h
    refine k_shr rfl rfl e38 (k_bin rfl rfl rfl (k_bin rfl rfl rfl (k_nil ?_)))
    refine wpE_cond (p := (((gand .u16 y37 ((1 : Int)))) != ((0 : Int)))) rfl (fun g39 => ?_) (fun g39 => ?_)
    ·have h := ctrue h g39
     refine e_last (k_mov f29 (k_mov rfl (k_mov rfl (k_bin rfl rfl rfl ?_))))
     obtain ⟨y40, e41, h⟩ := obind h
     refine k_slcT rfl (.some rfl) (.some rfl) e41 ?_
     obtain ⟨y42, e43, h⟩ := obind h
     refine k_sadd rfl rfl e43 (k_mov rfl (k_nil ?_))
     show wpE _ _ _ _ _ _ _ _
     refine e_last (k_bin f30 rfl rfl (k_mov rfl (k_nil ?_)))
     cases h
     exact ⟨rfl, rfl, rfl, (by repeat (first | exact k33 | refine Keep.upd ?_ rfl _)), rfl⟩
    ·have h := cfalse h g39
     refine wpE_skip ?_
     show wpE _ _ _ _ _ _ _ _
     refine e_last (k_bin f30 rfl rfl (k_mov rfl (k_nil ?_)))
     cases h
     exact ⟨rfl, f29, rfl, (by repeat (first | exact k33 | refine Keep.upd ?_ rfl _)), rfl⟩
   ·have h := cfalse h g36
    refine wpE_exit ?_
    cases h
    exact ⟨by decide, rfl, f29, (by repeat (first | exact k33 | refine Keep.upd ?_ rfl _)), rfl⟩
  rintro _ σ45 _ _ ⟨rfl, f49, k47, rfl⟩
  show wpE _ _ _ _ _ _ _ _
  refine e_reg (k_mov f49 (k_lenS rfl (k_mov f49 (k_mov rfl ?_))))
  obtain ⟨u50, e51, h⟩ := bnd_e h
  refine k_mov rfl (k_nil (wpE_ret ?_))
  cases h
  exact e_ret (ct := 0) (.tmp (cgI e51) (back_sc rfl) (.tmp rfl (back_sc rfl) .nil)) rfl
 ·have h := cfalse h g11
  refine e_reg (k_mov rfl (k_fadrB (o := 0) rfl k5 (k_loadB rfl k5 rfl (k_len rfl (sv.any [] _ q2) (k_bin rfl rfl rfl (k_mov rfl ?_))))))
  refine gL fun σ52 e53 => ?_
  have f54 : σ52 1 = V (.int .i64 x1) := (congrFun e53 1).trans rfl
  have f55 : σ52 2 = .v (.c (.r (.ptr 2 g3 0))) := (congrFun e53 2).trans rfl
  have f56 : σ52 44 = V (.bool ((x1 == ((List.length x0.sets : Int))))) := (congrFun e53 44).trans rfl
  refine k_mid (fun σ' hp' _ => hp4 = hp' ∧ σ' 48 = V (.bool (((x1 == ((List.length x0.sets : Int))) && (x0.tail == ((46 : Int)))))) ∧ Keep [] 45 48 σ52 σ') ?_ ?_
  ·rcases bt ((x1 == ((List.length x0.sets : Int)))) with g57 | g57
   ·refine k_yes (f56.trans (cgB g57)) ?_
    refine k_fadrB (o := 1) f55 k5 (k_yes (f56.trans (cgB g57)) (k_loadB rfl k5 rfl (k_yes (f56.trans (cgB g57)) (k_bin rfl rfl rfl (k_pickT (f56.trans (cgB g57)) rfl ?_)))))
    exact ⟨rfl, cgB (by rw [g57]; rfl), (by repeat (first | exact (Keep.refl _ _ _ _) | refine Keep.upd ?_ rfl _))⟩
   ·refine k_no (f56.trans (cgB g57)) rfl ?_
    refine k_no (f56.trans (cgB g57)) rfl (k_no (f56.trans (cgB g57)) rfl (k_pickF (f56.trans (cgB g57)) rfl ?_))
    exact ⟨rfl, cgB (by rw [g57]; rfl), (by repeat (first | exact (Keep.refl _ _ _ _) | refine Keep.upd ?_ rfl _))⟩
  rintro σ58 _ _ ⟨rfl, f60, k59⟩
  have f61 : σ58 1 = V (.int .i64 x1) := (k59 1 rfl).trans f54
  have f62 : σ58 2 = .v (.c (.r (.ptr 2 g3 0))) := (k59 2 rfl).trans f55
  refine k_mov f60 ?_
  obtain ⟨u63, e64, h⟩ := bnd_e h
  refine k_nil ?_
  refine wpE_cond (p := u63) (cgB e64) (fun g65 => ?_) (fun g65 => ?_)
  ·have h := ctrue h g65
   refine e_reg (k_mov rfl (k_mov rfl ?_))
   obtain ⟨u66, e67, h⟩ := bnd_e h
   refine k_nil (wpE_ret ?_)
   cases h
   exact e_ret (ct := 0) (.tmp rfl (back_sc rfl) (.tmp (cgS e67) (back_sc rfl) .nil)) rfl
  ·have h := cfalse h g65
   refine e_reg (k_mov f61 (k_fadrB (o := 0) f62 k5 (k_loadB rfl k5 rfl (k_len rfl (sv.any [] _ q2) (k_bin rfl rfl rfl (k_mov rfl ?_))))))
   refine gL fun σ68 e69 => ?_
   have f70 : σ68 2 = .v (.c (.r (.ptr 2 g3 0))) := (congrFun e69 2).trans f62
   have f71 : σ68 55 = V (.bool ((x1 == ((List.length x0.sets : Int))))) := (congrFun e69 55).trans rfl
   refine k_mid (fun σ' hp' _ => hp4 = hp' ∧ σ' 59 = V (.bool (((x1 == ((List.length x0.sets : Int))) && (x0.tail == ((33 : Int)))))) ∧ Keep [] 56 59 σ68 σ') ?_ ?_
   ·rcases bt ((x1 == ((List.length x0.sets : Int)))) with g72 | g72
    ·refine k_yes (f71.trans (cgB g72)) ?_
     refine k_fadrB (o := 1) f70 k5 (k_yes (f71.trans (cgB g72)) (k_loadB rfl k5 rfl (k_yes (f71.trans (cgB g72)) (k_bin rfl rfl rfl (k_pickT (f71.trans (cgB g72)) rfl ?_)))))
     exact ⟨rfl, cgB (by rw [g72]; rfl), (by repeat (first | exact (Keep.refl _ _ _ _) | refine Keep.upd ?_ rfl _))⟩
    ·refine k_no (f71.trans (cgB g72)) rfl ?_
     refine k_no (f71.trans (cgB g72)) rfl (k_no (f71.trans (cgB g72)) rfl (k_pickF (f71.trans (cgB g72)) rfl ?_))
     exact ⟨rfl, cgB (by rw [g72]; rfl), (by repeat (first | exact (Keep.refl _ _ _ _) | refine Keep.upd ?_ rfl _))⟩
   rintro σ73 _ _ ⟨rfl, f75, k74⟩
   refine k_mov f75 ?_
   obtain ⟨u76, e77, h⟩ := bnd_e h
   refine k_nil ?_
   refine wpE_cond (p := u76) (cgB e77) (fun g78 => ?_) (fun g78 => ?_)
   ·have h := ctrue h g78
    refine e_reg (k_mov rfl (k_mov rfl ?_))
    obtain ⟨u79, e80, h⟩ := bnd_e h
    refine k_nil (wpE_ret ?_)
    cases h
    exact e_ret (ct := 0) (.tmp rfl (back_sc rfl) (.tmp (cgS e80) (back_sc rfl) .nil)) rfl
   ·have h := cfalse h g78
    refine wpE_skip ?_
    show wpE _ _ _ _ _ _ _ _
    refine e_reg (k_mov rfl (k_mov rfl ?_))
    obtain ⟨u81, e82, h⟩ := bnd_e h
    refine k_nil (wpE_ret ?_)
    cases h
    exact e_ret (ct := 0) (.tmp rfl (back_sc rfl) (.tmp (cgS e82) (back_sc rfl) .nil)) rfl
theorem s151 {x0 : List Int} {vx0 : IV} {r : Int} (hx0 : sv (Rep.int .i64) false vx0 x0) (h : F151_cmp_Or_int x0 = some r) : pc L 151 [.c (I vx0)] true (P151 r) := by
 refine fn_pure (fn := ir151) rfl (Nat.le_of_ble_eq_true rfl) fun lent hl => ?_
 unfold F151_cmp_Or_int at h
 refine e_reg (k_mov rfl (k_nil (e_reg (k_mov rfl (k_nil (wpE_seq (e_reg ?_)))))))
 refine k_mov rfl (k_len rfl (sv.any [] _ hx0) (k_mov rfl (k_nil (wpE_block ?_))))
 refine gE fun σ1 e2 => ?_
 have f3 : σ1 3 = V (.int .i64 ((0 : Int))) := (congrFun e2 3).trans rfl
 have f4 : σ1 6 = .v (.c ((I vx0))) := (congrFun e2 6).trans rfl
 have f5 : σ1 7 = V (.int .i64 ((List.length x0 : Int))) := (congrFun e2 7).trans rfl
 have f6 : σ1 8 = V (.int .i64 ((0 : Int))) := (congrFun e2 8).trans rfl
 obtain ⟨e7, h8, h⟩ := lret_e h
 refine wpE_mono (e_loop h8 (I := fun s σ' hp' _ => σ' 8 = V (.int .i64 s) ∧ Keep [2, 5] 8 16 σ1 σ' ∧ [] = hp') (X := fun e ex σ' hp' _ => match e with | .inl e => ex = .exit 0 ∧ Keep [2, 5] 8 16 σ1 σ' ∧ [] = hp' | .inr r => ex = .ret ∧ ∀ ct, atEnd 18 [Res.tmp 2] (fin lent (P151 r)) .ret σ' hp' ct) ⟨f6, Keep.refl _ _ _ _, rfl⟩ ?_) ?_
 ·clear h
  rintro w9 o σ11 _ _ h ⟨f10, k13, rfl⟩
  have h : F151_cmp_Or_int_l0 x0 w9 = some o := h; unfold F151_cmp_Or_int_l0 at h
  have f15 : σ11 3 = V (.int .i64 ((0 : Int))) := (k13 3 rfl).trans f3
  have f16 : σ11 6 = .v (.c ((I vx0))) := (k13 6 rfl).trans f4
  have f17 : σ11 7 = V (.int .i64 ((List.length x0 : Int))) := (k13 7 rfl).trans f5
  show wpE _ _ _ _ _ _ _ _
  refine e_reg (k_bin f10 f17 rfl (k_nil (wpE_seq ?_)))
  refine wpE_cond (p := (decide (w9 < ((List.length x0 : Int))))) rfl (fun g18 => ?_) (fun g18 => ?_)
  ·have h := ctrue h g18
   refine wpE_skip ?_
   show wpE _ _ _ _ _ _ _ _
   refine wpE_seq (wpE_block (e_reg ?_))
   obtain ⟨y19, e20, h⟩ := obind h
   refine k_iadrL f16 (sv.any [] _ hx0) f10 e20 rfl fun p21 c22 q23 h24 => ?_
   obtain rfl : c22 = [IV.int .i64 y19] := h24
   refine k_loadL rfl q23 rfl (k_mov rfl (k_nil (e_reg (k_mov rfl (k_mov f15 (k_bin rfl rfl rfl (k_nil ?_)))))))
   refine wpE_cond (p := (y19 != ((0 : Int)))) rfl (fun g25 => ?_) (fun g25 => ?_)
   ·have h := ctrue h g25
    refine e_reg (k_mov rfl (k_mov rfl (k_nil (wpE_ret ?_))))
    cases h
    exact ⟨by decide, rfl, fun _ => e_ret (ct := 0) (.tmp rfl (back_sc rfl) .nil) rfl⟩
   ·have h := cfalse h g25
    refine wpE_skip ?_
    show wpE _ _ _ _ _ _ _ _
    refine e_last (k_bin f10 rfl rfl (k_mov rfl (k_nil ?_)))
    cases h
    exact ⟨rfl, rfl, (by repeat (first | exact k13 | refine Keep.upd ?_ rfl _)), rfl⟩
  ·have h := cfalse h g18
   refine wpE_exit ?_
   cases h
   exact ⟨by decide, rfl, (by repeat (first | exact k13 | refine Keep.upd ?_ rfl _)), rfl⟩
 rcases e7 with _ | r1
 rotate_left
 ·rintro _ _ _ _ ⟨rfl, hX⟩
  cases h
  exact hX 0
 rintro _ σ26 _ _ ⟨rfl, k28, rfl⟩
 have f30 : σ26 3 = V (.int .i64 ((0 : Int))) := (k28 3 rfl).trans f3
 show wpE _ _ _ _ _ _ _ _
 refine e_reg (k_mov f30 (k_mov rfl (k_nil (wpE_ret ?_))))
 cases h
 exact e_ret (ct := 0) (.tmp rfl (back_sc rfl) .nil) rfl
theorem s198 {x0 : Int} {r : Bool}  (h : F198_cmp_isNaN_int x0 = some r) : pc L 198 [.c (I (.int .i64 x0))] true (P198 r) := by
 refine fn_pure (fn := ir198) rfl (Nat.le_of_ble_eq_true rfl) fun lent hl => ?_
 unfold F198_cmp_isNaN_int at h
 refine e_reg (k_mov rfl (k_nil (e_reg (k_mov rfl (k_mov rfl (k_bin rfl rfl rfl (k_mov rfl ?_)))))))
 obtain ⟨u1, e2, h⟩ := bnd_e h
 refine k_nil (wpE_ret ?_)
 cases h
 exact e_ret (ct := 0) (.tmp (cgB e2) (back_sc rfl) .nil) rfl
theorem s152 {x0 : Int} {x1 : Int} {r : Int}  (h : F152_cmp_Compare_int x0 x1 = some r) : pc L 152 [.c (I (.int .i64 x0)), .c (I (.int .i64 x1))] true (P152 r) := by
 refine fn_pure (fn := ir152) rfl (Nat.le_of_ble_eq_true rfl) fun lent hl => ?_
 unfold F152_cmp_Compare_int at h
 refine e_reg (k_mov rfl (k_nil (e_reg (k_mov rfl ?_))))
 obtain ⟨y1, e2, h⟩ := obind h
 refine k_call (.cons rfl rfl .nil) (s198  e2) (.inl rfl) ?_
 rintro _ rfl
 refine k_mov rfl (k_nil (e_reg (k_mov rfl ?_)))
 obtain ⟨y4, e5, h⟩ := obind h
 refine k_call (.cons rfl rfl .nil) (s198  e5) (.inl rfl) ?_
 rintro _ rfl
 refine k_mov rfl (k_nil (wpE_seq (e_reg (k_mov rfl (k_nil ?_)))))
 refine wpE_cond (p := y1) rfl (fun g7 => ?_) (fun g7 => ?_)
 ·have h := ctrue h g7
  refine wpE_seq (e_reg (k_mov rfl (k_nil ?_)))
  refine wpE_cond (p := y4) rfl (fun g8 => ?_) (fun g8 => ?_)
  ·have h := ctrue h g8
   refine e_reg (k_mov rfl (k_nil (wpE_ret ?_)))
   cases h
   exact e_ret (ct := 0) (.tmp rfl (back_sc rfl) .nil) rfl
  ·have h := cfalse h g8
   refine wpE_skip ?_
   show wpE _ _ _ _ _ _ _ _
   refine e_reg (k_mov rfl (k_nil (wpE_ret ?_)))
   cases h
   exact e_ret (ct := 0) (.tmp rfl (back_sc rfl) .nil) rfl
 ·have h := cfalse h g7
  refine wpE_skip ?_
  show wpE _ _ _ _ _ _ _ _
  refine wpE_seq (e_reg (k_mov rfl (k_nil ?_)))
  refine wpE_cond (p := y4) rfl (fun g9 => ?_) (fun g9 => ?_)
  ·have h := ctrue h g9
   refine e_reg (k_mov rfl (k_nil (wpE_ret ?_)))
   cases h
   exact e_ret (ct := 0) (.tmp rfl (back_sc rfl) .nil) rfl
  ·have h := cfalse h g9
   refine wpE_skip ?_
   show wpE _ _ _ _ _ _ _ _
   refine wpE_seq (e_reg (k_mov rfl (k_mov rfl (k_bin rfl rfl rfl (k_nil ?_)))))
   refine wpE_cond (p := (decide (x0 < x1))) rfl (fun g10 => ?_) (fun g10 => ?_)
   ·have h := ctrue h g10
    refine e_reg (k_mov rfl (k_nil (wpE_ret ?_)))
    cases h
    exact e_ret (ct := 0) (.tmp rfl (back_sc rfl) .nil) rfl
   ·have h := cfalse h g10
    refine wpE_skip ?_
    show wpE _ _ _ _ _ _ _ _
    refine wpE_seq (e_reg (k_mov rfl (k_mov rfl (k_bin rfl rfl rfl (k_nil ?_)))))
    refine wpE_cond (p := (decide (x0 > x1))) rfl (fun g11 => ?_) (fun g11 => ?_)
    ·have h := ctrue h g11
     refine e_reg (k_mov rfl (k_nil (wpE_ret ?_)))
     cases h
     exact e_ret (ct := 0) (.tmp rfl (back_sc rfl) .nil) rfl
    ·have h := cfalse h g11
     refine wpE_skip ?_
     show wpE _ _ _ _ _ _ _ _
     refine e_reg (k_mov rfl (k_nil (wpE_ret ?_)))
     cases h
     exact e_ret (ct := 0) (.tmp rfl (back_sc rfl) .nil) rfl
theorem s90 {x0 : T_dialplan_pattern} {cx0 : List IV} {x1 : T_dialplan_pattern} {cx1 : List IV} {r : Int} (hx0 : R_dialplan_pattern.rp false cx0 x0) (hx1 : R_dialplan_pattern.rp false cx1 x1) (h : F90_dialplan_before x0 x1 = some r) : pc L 90 [.agg (cx0.map I), .agg (cx1.map I)] true (P90 r) := by
 refine fn_pure (fn := ir90) rfl (Nat.le_of_ble_eq_true rfl) fun lent hl => ?_
 unfold F90_dialplan_before at h
 obtain ⟨v1, rfl, q2⟩ := R_dialplan_pattern.inv hx0
 obtain ⟨v3, rfl, q4⟩ := R_dialplan_pattern.inv hx1
 refine e_reg ?_
 refine k_box rfl rfl fun g5 hp6 k7 r8 => ?_
 refine k_box rfl rfl fun g9 hp10 k11 r12 => ?_
 have k13 := (r12 2 (by decide)).trans k7
 refine k_mov rfl (k_nil (wpE_seq (e_reg (k_mov rfl (k_nil (wpE_block ?_))))))
 refine gE fun σ14 e15 => ?_
 have f16 : σ14 2 = .v (.c (.r (.ptr 2 g5 0))) := (congrFun e15 2).trans rfl
 have f17 : σ14 3 = .v (.c (.r (.ptr 3 g9 0))) := (congrFun e15 3).trans rfl
 have f18 : σ14 5 = V (.int .i64 ((0 : Int))) := (congrFun e15 5).trans rfl
 obtain ⟨e19, h20, h⟩ := lret_e h
 refine wpE_mono (e_loop h20 (I := fun s σ' hp' _ => σ' 5 = V (.int .i64 s) ∧ Keep [] 4 44 σ14 σ' ∧ hp10 = hp') (X := fun e ex σ' hp' _ => match e with | .inl e => ex = .exit 0 ∧ Keep [] 4 44 σ14 σ' ∧ hp10 = hp' | .inr r => ex = .ret ∧ ∀ ct, atEnd 45 [Res.tmp 4] (fin lent (P90 r)) .ret σ' hp' ct) ⟨f18, Keep.refl _ _ _ _, rfl⟩ ?_) ?_
 ·clear h
  rintro w21 o σ23 _ _ h ⟨f22, k25, rfl⟩
  have h : F90_dialplan_before_l0 x0 x1 w21 = some o := h; unfold F90_dialplan_before_l0 at h
  have f27 : σ23 2 = .v (.c (.r (.ptr 2 g5 0))) := (k25 2 rfl).trans f16
  have f28 : σ23 3 = .v (.c (.r (.ptr 3 g9 0))) := (k25 3 rfl).trans f17
  show wpE _ _ _ _ _ _ _ _
  refine wpE_seq (e_reg (k_mov f22 (k_fadrB (o := 0) f27 k13 (k_loadB rfl k13 rfl (k_len rfl (sv.any [] _ q2) (k_fadrB (o := 0) f28 k11 (k_loadB rfl k11 rfl ?_)))))))
  refine k_len rfl (sv.any [] _ q4) (k_mx2 rfl rfl (k_bin rfl rfl rfl (k_nil ?_)))
  refine wpE_cond (p := (decide (w21 ≤ ((gmax ((List.length x0.sets : Int)) ((List.length x1.sets : Int))))))) rfl (fun g29 => ?_) (fun g29 => ?_)
  ·have h := ctrue h g29
   refine wpE_skip ?_
   show wpE _ _ _ _ _ _ _ _
   refine wpE_seq (wpE_block (e_reg (k_loadB f27 k13 rfl (k_mov f22 ?_))))
   obtain ⟨y30, e31, h⟩ := obind h
   refine k_call (.cons rfl rfl (.cons rfl rfl .nil)) (s150 (cx0 := [(IV.retag 1 v1), IV.int .u8 x0.tail]) (R_dialplan_pattern.mk (sv_retag q2)) e31) (.inl rfl) ?_
   rintro _ rfl
   refine k_movT rfl (k_ext rfl rfl (k_ext rfl rfl (k_mov rfl (k_mov rfl (k_nil (e_reg (k_loadB f28 k11 rfl ?_)))))))
   refine k_mov f22 ?_
   obtain ⟨y33, e34, h⟩ := obind h
   refine k_call (.cons rfl rfl (.cons rfl rfl .nil)) (s150 (cx0 := [(IV.retag 1 v3), IV.int .u8 x1.tail]) (R_dialplan_pattern.mk (sv_retag q4)) e34) (.inl rfl) ?_
   rintro _ rfl
   refine k_movT rfl (k_ext rfl rfl (k_ext rfl rfl (k_mov rfl (k_mov rfl (k_nil (e_reg (k_mov rfl ?_)))))))
   refine k_mov rfl ?_
   obtain ⟨y36, e37, h⟩ := obind h
   refine k_call (.cons rfl rfl (.cons rfl rfl .nil)) (s152  e37) (.inl rfl) ?_
   rintro _ rfl
   refine k_mov rfl (k_mov rfl ?_)
   obtain ⟨y39, e40, h⟩ := obind h
   refine k_call (.cons rfl rfl (.cons rfl rfl .nil)) (s119  e40) (.inl rfl) ?_
   rintro _ rfl
   refine k_bslI (len := 2) (z := IV.int .i64 ((0 : Int))) (vs := [IV.int .i64 y36, IV.int .i64 y39]) (.cons rfl (.cons rfl .nil)) (by decide) rfl ?_
   have o42 : sv (Rep.int .i64) true (.lit 0 [IV.int .i64 y36, IV.int .i64 y39] 2) ([y36, y39] : List Int) := sv_lit true (⟨[IV.int .i64 y36], _, rfl, rfl, ⟨[IV.int .i64 y39], _, rfl, rfl, rfl⟩⟩) rfl
   obtain ⟨y43, e44, h⟩ := obind h
   refine k_call (.cons rfl rfl .nil) (s151 (sv_retag o42) e44) (.inl rfl) ?_
   rintro _ rfl
   refine k_mov rfl (k_nil (e_reg (k_mov rfl (k_bin rfl rfl rfl (k_nil ?_)))))
   refine wpE_cond (p := (y43 != ((0 : Int)))) rfl (fun g46 => ?_) (fun g46 => ?_)
   ·have h := ctrue h g46
    refine e_reg (k_mov rfl (k_mov rfl (k_nil (wpE_ret ?_))))
    cases h
    exact ⟨by decide, rfl, fun _ => e_ret (ct := 0) (.tmp rfl (back_sc rfl) .nil) rfl⟩
   ·have h := cfalse h g46
    refine wpE_skip ?_
    show wpE _ _ _ _ _ _ _ _
    refine e_last (k_mov f22 (k_bin rfl rfl rfl (k_mov rfl ?_)))
    obtain ⟨u47, e48, h⟩ := bnd_e h
    refine k_nil ?_
    cases h
    exact ⟨rfl, (cgI e48), (by repeat (first | exact k25 | refine Keep.upd ?_ rfl _)), rfl⟩
  ·have h := cfalse h g29
   refine wpE_exit ?_
   cases h
   exact ⟨by decide, rfl, (by repeat (first | exact k25 | refine Keep.upd ?_ rfl _)), rfl⟩
 rcases e19 with _ | r1
 rotate_left
 ·rintro _ _ _ _ ⟨rfl, hX⟩
  cases h
  exact hX 0
 rintro _ σ49 _ _ ⟨rfl, k51, rfl⟩
 show wpE _ _ _ _ _ _ _ _
 refine e_reg (k_mov rfl (k_nil (wpE_ret ?_)))
 cases h
 exact e_ret (ct := 0) (.tmp rfl (back_sc rfl) .nil) rfl
theorem s153 {x0 : T_dialplan_pattern} {cx0 : List IV} {x1 : Int} {r : Int × Bool} (hx0 : R_dialplan_pattern.rp false cx0 x0) (h : F153_dialplan_pattern_takes x0 x1 = some r) : pc L 153 [.agg (cx0.map I), .c (I (.int .i64 x1))] true (P153 r) := by
 refine fn_pure (fn := ir153) rfl (Nat.le_of_ble_eq_true rfl) fun lent hl => ?_
 unfold F153_dialplan_pattern_takes at h
 obtain ⟨v1, rfl, q2⟩ := R_dialplan_pattern.inv hx0
 refine e_reg ?_
 refine k_box rfl rfl fun g3 hp4 k5 r6 => ?_
 refine k_mov rfl (k_mov rfl (k_nil (wpE_seq (wpE_block (e_reg (k_mov rfl (k_fadrB (o := 0) rfl k5 ?_)))))))
 refine k_loadB rfl k5 rfl (k_len rfl (sv.any [] _ q2) (k_bin rfl rfl rfl (k_mov rfl ?_)))
 obtain ⟨u7, e8, h⟩ := bnd_e h
 refine k_nil ?_
 refine wpE_cond (p := u7) (cgB e8) (fun g9 => ?_) (fun g9 => ?_)
 ·have h := ctrue h g9
  refine e_reg (k_fadrB (o := 0) rfl k5 (k_loadB rfl k5 rfl (k_mov rfl ?_)))
  obtain ⟨y10, e11, h⟩ := obind h
  refine k_iadrL rfl (sv.any [] _ q2) rfl e11 rfl fun p12 c13 q14 h15 => ?_
  obtain rfl : c13 = [IV.int .u16 y10] := h15
  refine k_loadL rfl q14 rfl (k_mov rfl (k_mov rfl (k_nil (wpE_ret ?_))))
  cases h
  exact e_ret (ct := 0) (.tmp rfl (back_sc rfl) (.tmp rfl (back_sc rfl) .nil)) rfl
 ·have h := cfalse h g9
  refine e_reg (k_fadrB (o := 1) rfl k5 (k_loadB rfl k5 rfl (k_bin rfl rfl rfl (k_mov rfl ?_))))
  obtain ⟨u16, e17, h⟩ := bnd_e h
  refine k_nil ?_
  refine wpE_cond (p := u16) (cgB e17) (fun g18 => ?_) (fun g18 => ?_)
  ·have h := ctrue h g18
   refine e_regD (by kernel_rfl) (by kernel_rfl) (k_mov rfl (k_fadrB (o := 0) rfl k5 (k_loadB rfl k5 rfl (k_len rfl (sv.any [] _ q2) (k_bin rfl rfl rfl (k_mov rfl (k_mov rfl ?_)))))))
   obtain ⟨u19, e20, h⟩ := bnd_e h
   refine k_nil (wpE_ret ?_)
   cases h
   exact e_ret (ct := 0) (.tmp rfl (back_sc rfl) (.tmp (cgB e20) (back_sc rfl) .nil)) rfl
  ·have h := cfalse h g18
   refine e_reg (k_fadrB (o := 1) rfl k5 (k_loadB rfl k5 rfl (k_bin rfl rfl rfl (k_mov rfl ?_))))
   obtain ⟨u21, e22, h⟩ := bnd_e h
   refine k_nil ?_
   refine wpE_cond (p := u21) (cgB e22) (fun g23 => ?_) (fun g23 => ?_)
   ·have h := ctrue h g23
    refine e_reg (k_mov rfl (k_mov rfl (k_nil (wpE_ret ?_))))
    cases h
    exact e_ret (ct := 0) (.tmp rfl (back_sc rfl) (.tmp rfl (back_sc rfl) .nil)) rfl
   ·have h := cfalse h g23
    refine wpE_skip ?_
    show wpE _ _ _ _ _ _ _ _
    refine e_regD (by kernel_rfl) (by kernel_rfl) (k_mov rfl (k_fadrB (o := 0) rfl k5 (k_loadB rfl k5 rfl (k_len rfl (sv.any [] _ q2) (k_bin rfl rfl rfl (k_mov rfl (k_mov rfl ?_)))))))
    obtain ⟨u24, e25, h⟩ := bnd_e h
    refine k_nil (wpE_ret ?_)
    cases h
    exact e_ret (ct := 0) (.tmp rfl (back_sc rfl) (.tmp (cgB e25) (back_sc rfl) .nil)) rfl
theorem s94 {x0 : T_dialplan_pattern} {cx0 : List IV} {x1 : List UInt8} {r : Bool × Bool} (hx0 : R_dialplan_pattern.rp false cx0 x0) (h : F94_dialplan_pattern_begins x0 x1 = some r) : pc L 94 [.agg (cx0.map I), .c (I (.str x1))] true (P94 r) := by
 refine fn_pure (fn := ir94) rfl (Nat.le_of_ble_eq_true rfl) fun lent hl => ?_
 unfold F94_dialplan_pattern_begins at h
 obtain ⟨v1, rfl, q2⟩ := R_dialplan_pattern.inv hx0
 refine e_reg ?_
 refine k_box rfl rfl fun g3 hp4 k5 r6 => ?_
 refine k_mov rfl (k_mov rfl (k_nil (wpE_seq (e_reg (k_mov rfl (k_lenS rfl (k_mov rfl ?_)))))))
 refine k_nil (wpE_block ?_)
 refine gE fun σ7 e8 => ?_
 have f9 : σ7 1 = V (.str x1) := (congrFun e8 1).trans rfl
 have f10 : σ7 2 = .v (.c (.r (.ptr 2 g3 0))) := (congrFun e8 2).trans rfl
 have f11 : σ7 11 = V (.int .i64 ((List.length x1 : Int))) := (congrFun e8 11).trans rfl
 have f12 : σ7 12 = V (.int .i64 ((0 : Int))) := (congrFun e8 12).trans rfl
 obtain ⟨e13, h14, h⟩ := lret_e h
 refine wpE_mono (e_loop h14 (I := fun s σ' hp' _ => σ' 12 = V (.int .i64 s) ∧ Keep [4, 5, 6, 7, 8] 12 28 σ7 σ' ∧ hp4 = hp') (X := fun e ex σ' hp' _ => match e with | .inl e => ex = .exit 0 ∧ Keep [4, 5, 6, 7, 8] 12 28 σ7 σ' ∧ hp4 = hp' | .inr r => ex = .ret ∧ ∀ ct, atEnd 42 [Res.tmp 4, Res.tmp 5] (fin lent (P94 r)) .ret σ' hp' ct) ⟨f12, Keep.refl _ _ _ _, rfl⟩ ?_) ?_
 ·clear h
  rintro w15 o σ17 _ _ h ⟨f16, k19, rfl⟩
  have h : F94_dialplan_pattern_begins_l0 x0 x1 w15 = some o := h; unfold F94_dialplan_pattern_begins_l0 at h
  have f21 : σ17 1 = V (.str x1) := (k19 1 rfl).trans f9
  have f22 : σ17 2 = .v (.c (.r (.ptr 2 g3 0))) := (k19 2 rfl).trans f10
  have f23 : σ17 11 = V (.int .i64 ((List.length x1 : Int))) := (k19 11 rfl).trans f11
  show wpE _ _ _ _ _ _ _ _
  refine e_reg (k_bin f16 f23 rfl (k_nil (wpE_seq ?_)))
  refine wpE_cond (p := (decide (w15 < ((List.length x1 : Int))))) rfl (fun g24 => ?_) (fun g24 => ?_)
  ·have h := ctrue h g24
   refine wpE_skip ?_
   show wpE _ _ _ _ _ _ _ _
   refine wpE_seq (wpE_block (e_reg (k_mov f16 (k_mov rfl (k_nil (e_reg (k_loadB f22 k5 rfl ?_)))))))
   refine k_mov rfl ?_
   obtain ⟨y25, e26, h⟩ := obind h
   refine k_call (.cons rfl rfl (.cons rfl rfl .nil)) (s153 (cx0 := [(IV.retag 1 v1), IV.int .u8 x0.tail]) (R_dialplan_pattern.mk (sv_retag q2)) e26) (.inl rfl) ?_
   rintro _ rfl
   refine k_movT rfl (k_ext rfl rfl (k_ext rfl rfl (k_mov rfl (k_mov rfl (k_nil (e_reg (k_mov rfl ?_)))))))
   refine k_mov f21 (k_mov rfl ?_)
   obtain ⟨y28, e29, h⟩ := obind h
   refine k_idxS rfl rfl e29 ?_
   obtain ⟨y30, e31, h⟩ := obind h
   refine k_call (.cons rfl rfl .nil) (s155  e31) (.inl rfl) ?_
   rintro _ rfl
   refine k_bin rfl rfl rfl (k_bin rfl rfl rfl (k_nil ?_))
   refine wpE_cond (p := (((gand .u16 y25.1 y30)) == ((0 : Int)))) rfl (fun g33 => ?_) (fun g33 => ?_)
   ·have h := ctrue h g33
    refine e_reg (k_mov rfl (k_mov rfl (k_nil (wpE_ret ?_))))
    cases h
    exact ⟨by decide, rfl, fun _ => e_ret (ct := 0) (.tmp rfl (back_sc rfl) (.tmp rfl (back_sc rfl) .nil)) rfl⟩
   ·have h := cfalse h g33
    refine wpE_skip ?_
    show wpE _ _ _ _ _ _ _ _
    refine e_last (k_bin f16 rfl rfl (k_mov rfl (k_nil ?_)))
    cases h
    exact ⟨rfl, rfl, (by repeat (first | exact k19 | refine Keep.upd ?_ rfl _)), rfl⟩
  ·have h := cfalse h g24
   refine wpE_exit ?_
   cases h
   exact ⟨by decide, rfl, (by repeat (first | exact k19 | refine Keep.upd ?_ rfl _)), rfl⟩
 rcases e13 with _ | r1
 rotate_left
 ·rintro _ _ _ _ ⟨rfl, hX⟩
  cases h
  exact hX 0
 rintro _ σ34 _ _ ⟨rfl, k36, rfl⟩
 have f38 : σ34 1 = V (.str x1) := (k36 1 rfl).trans f9
 have f39 : σ34 2 = .v (.c (.r (.ptr 2 g3 0))) := (k36 2 rfl).trans f10
 show wpE _ _ _ _ _ _ _ _
 refine e_reg (k_loadB f39 k5 rfl (k_mov f38 (k_lenS rfl ?_)))
 obtain ⟨y40, e41, h⟩ := obind h
 refine k_call (.cons rfl rfl (.cons rfl rfl .nil)) (s153 (cx0 := [(IV.retag 1 v1), IV.int .u8 x0.tail]) (R_dialplan_pattern.mk (sv_retag q2)) e41) (.inl rfl) ?_
 rintro _ rfl
 refine k_movT rfl (k_ext rfl rfl (k_ext rfl rfl (k_mov rfl (k_mov rfl (k_nil (e_reg (k_mov rfl ?_)))))))
 refine k_bin rfl rfl rfl (k_mov rfl ?_)
 refine gL fun σ43 e44 => ?_
 have f45 : σ43 5 = V (.bool y40.2) := (congrFun e44 5).trans rfl
 have f46 : σ43 38 = V (.bool ((y40.1 != ((0 : Int))))) := (congrFun e44 38).trans rfl
 refine k_mid (fun σ' hp' _ => hp4 = hp' ∧ σ' 40 = V (.bool (((y40.1 != ((0 : Int))) || y40.2))) ∧ Keep [] 39 40 σ43 σ') ?_ ?_
 ·rcases bt ((y40.1 != ((0 : Int)))) with g47 | g47
  ·refine k_no (f46.trans (cgB g47)) rfl ?_
   refine k_pickT (f46.trans (cgB g47)) rfl ?_
   exact ⟨rfl, cgB (by rw [g47]; rfl), (by repeat (first | exact (Keep.refl _ _ _ _) | refine Keep.upd ?_ rfl _))⟩
  ·refine k_yes (f46.trans (cgB g47)) ?_
   refine k_mov f45 (k_pickF (f46.trans (cgB g47)) rfl ?_)
   exact ⟨rfl, cgB (by rw [g47]; rfl), (by repeat (first | exact (Keep.refl _ _ _ _) | refine Keep.upd ?_ rfl _))⟩
 rintro σ48 _ _ ⟨rfl, f50, k49⟩
 have f51 : σ48 5 = V (.bool y40.2) := (k49 5 rfl).trans f45
 refine k_mov f51 (k_mov f50 ?_)
 obtain ⟨u52, e53, h⟩ := bnd_e h
 refine k_mov rfl (k_nil (wpE_ret ?_))
 cases h
 exact e_ret (ct := 0) (.tmp (cgB e53) (back_sc rfl) (.tmp rfl (back_sc rfl) .nil)) rfl
end Go.Proofs.YtagbgmkocjfanaaGreatDoor

/-
 The small code of functions comes to the Lean functions. Printed by a program of mine.
-/
namespace Go.Proofs.YtagbgmkocjfanaaGreatDoor
open Go Go.Abs
set_option maxRecDepth 100000
set_option maxHeartbeats 8000000
theorem s78 {x0 : T_api_Plan} {cx0 : List IV} {x1 : T_api_Context} {cx1 : List IV} {x2 : List UInt8} {x3 : Int} {r : Int} (hx0 : R_api_Plan.rp false cx0 x0) (hx1 : R_api_Context.rp false cx1 x1) (h : F78_dialplan_decides x0 x1 x2 x3 = some r) : pc L 78 [.agg (cx0.map I), .agg (cx1.map I), .c (I (.str x2)), .c (I (.int .i64 x3))] true (P78 r) := by
 refine fn_pure (fn := ir78) rfl (Nat.le_of_ble_eq_true rfl) fun lent hl => ?_
 unfold F78_dialplan_decides at h
 obtain ⟨v1, v3, rfl, q2, q4⟩ := R_api_Plan.inv hx0
 obtain ⟨v5, v7, rfl, q6, q8⟩ := R_api_Context.inv hx1
 refine e_reg ?_
 refine k_box rfl rfl fun g9 hp10 k11 r12 => ?_
 refine k_box rfl rfl fun g13 hp14 k15 r16 => ?_
 have k17 := (r16 4 (by decide)).trans k11
 refine k_mov rfl (k_nil (e_reg (k_mov rfl (k_nil (e_reg ?_)))))
 refine k_alloc fun g18 hp19 k20 r21 => ?_
 have k22 := (r21 4 (by decide)).trans k17
 have k23 := (r21 5 (by decide)).trans k15
 refine k_nil (wpE_seq (e_reg (k_fadrB (o := 1) rfl k23 (k_loadB rfl k23 rfl (k_len rfl (sv.any [] _ q6) (k_mov rfl (k_nil ?_)))))))
 refine wpE_block ?_
 refine gE fun σ24 e25 => ?_
 have f26 : σ24 2 = V (.str x2) := (congrFun e25 2).trans rfl
 have f27 : σ24 3 = V (.int .i64 x3) := (congrFun e25 3).trans rfl
 have f28 : σ24 4 = .v (.c (.r (.ptr 4 g9 0))) := (congrFun e25 4).trans rfl
 have f29 : σ24 9 = V (.int .i64 (((-1) : Int))) := (congrFun e25 9).trans rfl
 have f30 : σ24 10 = .v (.c (.r (.ptr 10 g18 0))) := (congrFun e25 10).trans rfl
 have f31 : σ24 18 = .v (.c ((I v5))) := (congrFun e25 18).trans rfl
 have f32 : σ24 19 = V (.int .i64 ((List.length x1.Rules : Int))) := (congrFun e25 19).trans rfl
 have f33 : σ24 20 = V (.int .i64 ((0 : Int))) := (congrFun e25 20).trans rfl
 obtain ⟨y178, h35, h⟩ := obind h
 refine wpE_mono (e_loop h35 (I := fun s σ' hp' _ => σ' 9 = V (.int .i64 s.1) ∧ σ' 20 = V (.int .i64 s.2.1) ∧ (∃ c, hp'.get 10 = some (.cells g18 (c.map I)) ∧ R_dialplan_pattern.rp true c s.2.2) ∧ Keep [9, 11, 12, 13, 14, 15, 16] 20 57 σ24 σ' ∧ Fr [10, 12, 13] hp19 hp') (X := fun e ex σ' hp' _ => ex = .exit 0 ∧ σ' 9 = V (.int .i64 e) ∧ Keep [9, 11, 12, 13, 14, 15, 16] 20 57 σ24 σ' ∧ Fr [10, 12, 13] hp19 hp') ⟨f29, f33, ⟨[IV.nilS, IV.int .u8 ((0 : Int))], k20, (R_dialplan_pattern.mk (sv_nil (Rep.int .u16) true))⟩, Keep.refl _ _ _ _, Fr.refl _ _⟩ ?_) ?_
 ·clear h
  rintro ⟨w36, w37, w38⟩ o σ44 hp45 _ h ⟨f39, f40, ⟨c41, k42, h43⟩, k46, r47⟩
  have h : F78_dialplan_decides_l0 x0 x1 x2 x3 w36 w37 w38 = some o := h; unfold F78_dialplan_decides_l0 at h
  have f48 : σ44 2 = V (.str x2) := (k46 2 rfl).trans f26
  have f49 : σ44 3 = V (.int .i64 x3) := (k46 3 rfl).trans f27
  have f50 : σ44 4 = .v (.c (.r (.ptr 4 g9 0))) := (k46 4 rfl).trans f28
  have f51 : σ44 10 = .v (.c (.r (.ptr 10 g18 0))) := (k46 10 rfl).trans f30
  have f52 : σ44 18 = .v (.c ((I v5))) := (k46 18 rfl).trans f31
  have f53 : σ44 19 = V (.int .i64 ((List.length x1.Rules : Int))) := (k46 19 rfl).trans f32
  have k54 := (r47 4 (by decide)).trans k22
  obtain ⟨v55, rfl, q56⟩ := R_dialplan_pattern.inv h43
  show wpE _ _ _ _ _ _ _ _
  refine e_reg (k_bin f40 f53 rfl (k_nil (wpE_seq ?_)))
  refine wpE_cond (p := (decide (w37 < ((List.length x1.Rules : Int))))) rfl (fun g57 => ?_) (fun g57 => ?_)
  ·have h := ctrue h g57
   refine wpE_skip ?_
   show wpE _ _ _ _ _ _ _ _
   refine wpE_seq (wpE_block (e_reg (k_mov f40 ?_)))
   obtain ⟨y58, e59, h⟩ := obind h
   refine k_iadrL f52 (sv.any [] _ q6) f40 e59 rfl fun p60 c61 q62 h63 => ?_
   obtain ⟨_, rfl⟩ := R_api_Rule.inv h63
   refine k_loadL rfl q62 rfl ?_
   refine k_alloc fun g64 hp65 k66 r67 => ?_
   have r68 : Fr [10, 12, 13] hp19 hp65 := Fr.ext r47 r67 rfl
   have k69 := (r67 4 (by decide)).trans k54
   have k70 := (r67 10 (by decide)).trans k42
   refine k_mov rfl ?_
   refine k_storeB rfl rfl k66 rfl fun hp71 k72 r73 => ?_
   have r74 : Fr [10, 12, 13] hp19 hp71 := Fr.ext r68 r73 rfl
   have k75 := (r73 4 (by decide)).trans k69
   have k76 := (r73 10 (by decide)).trans k70
   refine k_nil (e_reg (k_fadrB (o := 0) rfl k72 (k_loadB rfl k72 rfl ?_)))
   obtain ⟨y77, e78, h⟩ := obind h
   refine k_call (.cons rfl rfl .nil) (s79  e78) (.inl rfl) ?_
   rintro _ ⟨c80, rfl, q81⟩
   obtain ⟨v82, rfl, q83⟩ := R_dialplan_pattern.inv q81
   refine k_movT rfl (k_ext rfl rfl (k_ext rfl rfl ?_))
   refine k_alloc fun g84 hp85 k86 r87 => ?_
   have r88 : Fr [10, 12, 13] hp19 hp85 := Fr.ext r74 r87 rfl
   have k89 := (r87 4 (by decide)).trans k75
   have k90 := (r87 10 (by decide)).trans k76
   have k91 := (r87 12 (by decide)).trans k72
   refine k_storeB rfl rfl k86 rfl fun hp92 k93 r94 => ?_
   have r95 : Fr [10, 12, 13] hp19 hp92 := Fr.ext r88 r94 rfl
   have k96 := (r94 4 (by decide)).trans k89
   have k97 := (r94 10 (by decide)).trans k90
   have k98 := (r94 12 (by decide)).trans k91
   refine k_mov rfl (k_nil (wpE_seq (e_reg (k_loadB rfl k93 rfl (k_mov f48 ?_)))))
   obtain ⟨y99, e100, h⟩ := obind h
   refine k_call (.cons rfl rfl (.cons rfl rfl .nil)) (s94 (cx0 := [(IV.retag 1 v82), IV.int .u8 y77.1.tail]) (R_dialplan_pattern.mk (sv_retag q83)) e100) (.inl rfl) ?_
   rintro _ rfl
   refine k_movT rfl (k_ext rfl rfl (k_ext rfl rfl (k_mov rfl (k_mov rfl (k_nil (e_reg (k_mov rfl ?_)))))))
   refine k_not rfl (k_mov rfl ?_)
   refine gL fun σ102 e103 => ?_
   have k104 : Keep [9, 11, 12, 13, 14, 15, 16] 20 57 σ24 σ102 := by rw [e103]; repeat (first | exact k46 | refine Keep.upd ?_ rfl _)
   have f106 : σ102 3 = V (.int .i64 x3) := (congrFun e103 3).trans f49
   have f107 : σ102 4 = .v (.c (.r (.ptr 4 g9 0))) := (congrFun e103 4).trans f50
   have f108 : σ102 9 = V (.int .i64 w36) := (congrFun e103 9).trans f39
   have f109 : σ102 10 = .v (.c (.r (.ptr 10 g18 0))) := (congrFun e103 10).trans f51
   have f112 : σ102 20 = V (.int .i64 w37) := (congrFun e103 20).trans f40
   have f113 : σ102 12 = .v (.c (.r (.ptr 12 g64 0))) := (congrFun e103 12).trans rfl
   have f114 : σ102 11 = V (.int .i64 w37) := (congrFun e103 11).trans rfl
   have f115 : σ102 13 = .v (.c (.r (.ptr 13 g84 0))) := (congrFun e103 13).trans rfl
   have f116 : σ102 39 = V (.bool (!y99.2)) := (congrFun e103 39).trans rfl
   obtain ⟨y121, e122, h⟩ := obind h
   refine k_mid (fun σ' hp' _ => hp92 = hp' ∧ σ' 46 = V (.bool y121) ∧ Keep [] 40 46 σ102 σ') ?_ ?_
   ·rcases bt (!y99.2) with g117 | g117
    ·have h := ctrue e122 g117
     refine k_no (f116.trans (cgB g117)) rfl (k_no (f116.trans (cgB g117)) rfl (k_no (f116.trans (cgB g117)) rfl (k_no (f116.trans (cgB g117)) rfl (k_no (f116.trans (cgB g117)) rfl (k_no (f116.trans (cgB g117)) rfl (k_pickT (f116.trans (cgB g117)) rfl ?_))))))
     exact ⟨rfl, cgB (Option.some.inj h), (by repeat (first | exact (Keep.refl _ _ _ _) | refine Keep.upd ?_ rfl _))⟩
    ·have h := cfalse e122 g117
     refine k_yes (f116.trans (cgB g117)) (k_loadB f107 k96 rfl (k_yes (f116.trans (cgB g117)) (k_fadrB (o := 5) f113 k98 (k_yes (f116.trans (cgB g117)) (k_loadB rfl k98 rfl (k_yes (f116.trans (cgB g117)) (k_mov f106 ?_)))))))
     refine k_yes (f116.trans (cgB g117)) ?_
     obtain ⟨y118, e119, h⟩ := obind h
     refine k_call (.cons rfl rfl (.cons rfl rfl (.cons rfl rfl .nil))) (s80 (cx0 := [(IV.retag 1 v1), (IV.retag 1 v3)]) (R_api_Plan.mk (sv_retag q2) (sv_retag q4)) e119) (.inl rfl) ?_
     rintro _ rfl
     refine k_yes (f116.trans (cgB g117)) (k_not rfl (k_pickF (f116.trans (cgB g117)) rfl ?_))
     exact ⟨rfl, cgB (Option.some.inj h), (by repeat (first | exact (Keep.refl _ _ _ _) | refine Keep.upd ?_ rfl _))⟩
   rintro σ123 _ _ ⟨rfl, f125, k124⟩
   have f129 : σ123 9 = V (.int .i64 w36) := (k124 9 rfl).trans f108
   have f130 : σ123 10 = .v (.c (.r (.ptr 10 g18 0))) := (k124 10 rfl).trans f109
   have f133 : σ123 20 = V (.int .i64 w37) := (k124 20 rfl).trans f112
   have f134 : σ123 11 = V (.int .i64 w37) := (k124 11 rfl).trans f114
   have f135 : σ123 13 = .v (.c (.r (.ptr 13 g84 0))) := (k124 13 rfl).trans f115
   have k136 : Keep [9, 11, 12, 13, 14, 15, 16] 20 57 σ24 σ123 := Keep.trans k104 (Keep.sub k124 rfl)
   refine k_nil ?_
   refine wpE_cond (p := y121) f125 (fun g137 => ?_) (fun g137 => ?_)
   ·have h := ctrue h g137
    refine wpE_exit ?_
    show wpE _ _ _ _ _ _ _ _
    refine e_last (k_bin f133 rfl rfl (k_mov rfl (k_nil ?_)))
    cases h
    exact ⟨rfl, f129, rfl, ⟨[v55, IV.int .u8 w38.tail], k97, (R_dialplan_pattern.mk q56)⟩, (by repeat (first | exact k136 | refine Keep.upd ?_ rfl _)), r95⟩
   ·have h := cfalse h g137
    refine wpE_skip ?_
    show wpE _ _ _ _ _ _ _ _
    refine e_reg (k_mov f129 (k_bin rfl rfl rfl (k_mov rfl ?_)))
    refine gL fun σ138 e139 => ?_
    have k140 : Keep [9, 11, 12, 13, 14, 15, 16] 20 57 σ24 σ138 := by rw [e139]; repeat (first | exact k136 | refine Keep.upd ?_ rfl _)
    have f144 : σ138 9 = V (.int .i64 w36) := (congrFun e139 9).trans f129
    have f145 : σ138 10 = .v (.c (.r (.ptr 10 g18 0))) := (congrFun e139 10).trans f130
    have f148 : σ138 20 = V (.int .i64 w37) := (congrFun e139 20).trans f133
    have f149 : σ138 11 = V (.int .i64 w37) := (congrFun e139 11).trans f134
    have f150 : σ138 13 = .v (.c (.r (.ptr 13 g84 0))) := (congrFun e139 13).trans f135
    have f151 : σ138 49 = V (.bool ((decide (w36 < ((0 : Int)))))) := (congrFun e139 49).trans rfl
    obtain ⟨y156, e157, h⟩ := obind h
    refine k_mid (fun σ' hp' _ => hp92 = hp' ∧ σ' 54 = V (.bool y156) ∧ Keep [] 50 54 σ138 σ') ?_ ?_
    ·rcases bt ((decide (w36 < ((0 : Int))))) with g152 | g152
     ·have h := ctrue e157 g152
      refine k_no (f151.trans (cgB g152)) rfl (k_no (f151.trans (cgB g152)) rfl (k_no (f151.trans (cgB g152)) rfl (k_no (f151.trans (cgB g152)) rfl (k_pickT (f151.trans (cgB g152)) rfl ?_))))
      exact ⟨rfl, cgB (Option.some.inj h), (by repeat (first | exact (Keep.refl _ _ _ _) | refine Keep.upd ?_ rfl _))⟩
     ·have h := cfalse e157 g152
      refine k_yes (f151.trans (cgB g152)) (k_loadB f150 k93 rfl (k_yes (f151.trans (cgB g152)) (k_loadB f145 k97 rfl (k_yes (f151.trans (cgB g152)) ?_))))
      obtain ⟨y153, e154, h⟩ := obind h
      refine k_call (.cons rfl rfl (.cons rfl rfl .nil)) (s90 (cx0 := [(IV.retag 1 v82), IV.int .u8 y77.1.tail]) (R_dialplan_pattern.mk (sv_retag q83)) (cx1 := [(IV.retag 1 v55), IV.int .u8 w38.tail]) (R_dialplan_pattern.mk (sv_retag q56)) e154) (.inl rfl) ?_
      rintro _ rfl
      refine k_yes (f151.trans (cgB g152)) (k_bin rfl rfl rfl (k_pickF (f151.trans (cgB g152)) rfl ?_))
      exact ⟨rfl, cgB (Option.some.inj h), (by repeat (first | exact (Keep.refl _ _ _ _) | refine Keep.upd ?_ rfl _))⟩
    rintro σ158 _ _ ⟨rfl, f160, k159⟩
    have f164 : σ158 9 = V (.int .i64 w36) := (k159 9 rfl).trans f144
    have f165 : σ158 10 = .v (.c (.r (.ptr 10 g18 0))) := (k159 10 rfl).trans f145
    have f168 : σ158 20 = V (.int .i64 w37) := (k159 20 rfl).trans f148
    have f169 : σ158 11 = V (.int .i64 w37) := (k159 11 rfl).trans f149
    have f170 : σ158 13 = .v (.c (.r (.ptr 13 g84 0))) := (k159 13 rfl).trans f150
    have k171 : Keep [9, 11, 12, 13, 14, 15, 16] 20 57 σ24 σ158 := Keep.trans k140 (Keep.sub k159 rfl)
    refine k_nil ?_
    refine wpE_cond (p := y156) f160 (fun g172 => ?_) (fun g172 => ?_)
    ·have h := ctrue h g172
     refine e_lastT (by kernel_rfl) (by kernel_rfl) ?_
     refine t_n ?_
     refine k_mov f169 (k_nil ?_)
     refine t_r (S := [13]) (dep_load f170 (List.mem_singleton.2 rfl)) ?_
     refine k_loadB f170 k93 rfl (k_nil ?_)
     refine t_n ?_
     refine k_mov rfl (k_nil ?_)
     refine t_t ?_
     refine k_storeB f165 rfl k97 rfl fun hp173 k174 r175 => ?_
     have r176 : Fr [10, 12, 13] hp19 hp173 := Fr.ext r95 r175 rfl
     refine k_nil ⟨r175, ?_⟩
     refine t_nil ?_
     show wpE _ _ _ _ _ _ _ _
     refine e_last (k_bin f168 rfl rfl (k_mov rfl (k_nil ?_)))
     cases h
     exact ⟨rfl, rfl, rfl, ⟨[v82, IV.int .u8 y77.1.tail], k174, (R_dialplan_pattern.mk q83)⟩, (by repeat (first | exact k171 | refine Keep.upd ?_ rfl _)), r176⟩
    ·have h := cfalse h g172
     refine wpE_skip ?_
     show wpE _ _ _ _ _ _ _ _
     refine e_last (k_bin f168 rfl rfl (k_mov rfl (k_nil ?_)))
     cases h
     exact ⟨rfl, f164, rfl, ⟨[v55, IV.int .u8 w38.tail], k97, (R_dialplan_pattern.mk q56)⟩, (by repeat (first | exact k171 | refine Keep.upd ?_ rfl _)), r95⟩
  ·have h := cfalse h g57
   refine wpE_exit ?_
   cases h
   exact ⟨by decide, rfl, f39, (by repeat (first | exact k46 | refine Keep.upd ?_ rfl _)), r47⟩
 rintro _ σ179 hp180 _ ⟨rfl, f183, k181, r182⟩
 show wpE _ _ _ _ _ _ _ _
 refine e_reg (k_mov f183 (k_mov rfl (k_nil (wpE_ret ?_))))
 cases h
 exact e_ret (ct := 0) (.tmp rfl (back_sc rfl) .nil) rfl
theorem s81 {x0 : T_dialplan_pattern} {cx0 : List IV} {x1 : List UInt8} {r : Bool} (hx0 : R_dialplan_pattern.rp false cx0 x0) (h : F81_dialplan_longer x0 x1 = some r) : pc L 81 [.agg (cx0.map I), .c (I (.str x1))] true (P81 r) := by
 refine fn_pure (fn := ir81) rfl (Nat.le_of_ble_eq_true rfl) fun lent hl => ?_
 unfold F81_dialplan_longer at h
 obtain ⟨v1, rfl, q2⟩ := R_dialplan_pattern.inv hx0
 refine e_reg ?_
 refine k_box rfl rfl fun g3 hp4 k5 r6 => ?_
 refine k_mov rfl (k_nil (wpE_seq (e_reg (k_loadB rfl k5 rfl (k_mov rfl ?_)))))
 obtain ⟨y7, e8, h⟩ := obind h
 refine k_call (.cons rfl rfl (.cons rfl rfl .nil)) (s94 (cx0 := [(IV.retag 1 v1), IV.int .u8 x0.tail]) (R_dialplan_pattern.mk (sv_retag q2)) e8) (.inl rfl) ?_
 rintro _ rfl
 refine k_movT rfl (k_ext rfl rfl (k_ext rfl rfl (k_mov rfl (k_mov rfl (k_nil (e_reg (k_mov rfl ?_)))))))
 refine k_not rfl (k_mov rfl ?_)
 refine gL fun σ10 e11 => ?_
 have f12 : σ10 1 = V (.str x1) := (congrFun e11 1).trans rfl
 have f13 : σ10 2 = .v (.c (.r (.ptr 2 g3 0))) := (congrFun e11 2).trans rfl
 have f14 : σ10 16 = V (.bool (!y7.1)) := (congrFun e11 16).trans rfl
 refine k_mid (fun σ' hp' _ => hp4 = hp' ∧ σ' 20 = V (.bool (((!y7.1) || (decide (((List.length x1 : Int)) ≥ ((30 : Int))))))) ∧ Keep [] 17 20 σ10 σ') ?_ ?_
 ·rcases bt (!y7.1) with g15 | g15
  ·refine k_no (f14.trans (cgB g15)) rfl ?_
   refine k_no (f14.trans (cgB g15)) rfl (k_no (f14.trans (cgB g15)) rfl (k_pickT (f14.trans (cgB g15)) rfl ?_))
   exact ⟨rfl, cgB (by rw [g15]; rfl), (by repeat (first | exact (Keep.refl _ _ _ _) | refine Keep.upd ?_ rfl _))⟩
  ·refine k_yes (f14.trans (cgB g15)) ?_
   refine k_mov f12 (k_yes (f14.trans (cgB g15)) (k_lenS rfl (k_yes (f14.trans (cgB g15)) (k_bin rfl rfl rfl (k_pickF (f14.trans (cgB g15)) rfl ?_)))))
   exact ⟨rfl, cgB (by rw [g15]; rfl), (by repeat (first | exact (Keep.refl _ _ _ _) | refine Keep.upd ?_ rfl _))⟩
 rintro σ16 _ _ ⟨rfl, f18, k17⟩
 have f19 : σ16 1 = V (.str x1) := (k17 1 rfl).trans f12
 have f20 : σ16 2 = .v (.c (.r (.ptr 2 g3 0))) := (k17 2 rfl).trans f13
 refine k_nil ?_
 refine wpE_cond (p := ((!y7.1) || (decide (((List.length x1 : Int)) ≥ ((30 : Int)))))) f18 (fun g21 => ?_) (fun g21 => ?_)
 ·have h := ctrue h g21
  refine e_reg (k_mov rfl (k_nil (wpE_ret ?_)))
  cases h
  exact e_ret (ct := 0) (.tmp rfl (back_sc rfl) .nil) rfl
 ·have h := cfalse h g21
  refine wpE_skip ?_
  show wpE _ _ _ _ _ _ _ _
  refine wpE_seq (e_reg (k_fadrB (o := 1) f20 k5 (k_loadB rfl k5 rfl (k_bin rfl rfl rfl (k_nil ?_)))))
  refine wpE_cond (p := (x0.tail != ((0 : Int)))) rfl (fun g22 => ?_) (fun g22 => ?_)
  ·have h := ctrue h g22
   refine e_reg (k_fadrB (o := 0) f20 k5 (k_loadB rfl k5 rfl (k_len rfl (sv.any [] _ q2) (k_mov rfl ?_))))
   obtain ⟨u23, e24, h⟩ := bnd_e h
   refine k_nil (wpE_seq (e_reg (k_fadrB (o := 1) f20 k5 (k_loadB rfl k5 rfl (k_bin rfl rfl rfl (k_nil ?_))))))
   refine gE fun σ25 e26 => ?_
   have f27 : σ25 7 = V (.int .i64 u23) := (congrFun e26 7).trans (cgI e24)
   have f28 : σ25 29 = V (.bool ((x0.tail == ((46 : Int))))) := (congrFun e26 29).trans rfl
   obtain ⟨y31, h30, h⟩ := obind h
   refine wpE_mono (Q := fun ex σ' hp' _ => ex = .normal ∧ σ' 7 = V (.int .i64 y31) ∧ Keep [] 7 31 σ25 σ' ∧ hp4 = hp') ?_ ?_
   ·clear h; have h := h30
    refine wpE_cond (p := (x0.tail == ((46 : Int)))) f28 (fun g32 => ?_) (fun g32 => ?_)
    ·have h := ctrue h g32
     refine e_last (k_mov f27 (k_bin rfl rfl rfl (k_mov rfl ?_)))
     obtain ⟨u33, e34, h⟩ := bnd_e h
     refine k_nil ?_
     have q0 := Option.some.inj h
     obtain rfl := q0
     exact ⟨rfl, (cgI e34), (by repeat (first | exact (Keep.refl _ _ _ _) | refine Keep.upd ?_ rfl _)), rfl⟩
    ·have h := cfalse h g32
     refine wpE_skip ?_
     have q0 := Option.some.inj h
     obtain rfl := q0
     exact ⟨rfl, f27, (by repeat (first | exact (Keep.refl _ _ _ _) | refine Keep.upd ?_ rfl _)), rfl⟩
   rintro _ σ36 _ _ ⟨rfl, f35, k38, rfl⟩
   show wpE _ _ _ _ _ _ _ _
   refine e_reg (k_mov f35 (k_bin rfl rfl rfl (k_mov rfl ?_)))
   obtain ⟨u40, e41, h⟩ := bnd_e h
   refine k_nil (wpE_ret ?_)
   cases h
   exact e_ret (ct := 0) (.tmp (cgB e41) (back_sc rfl) .nil) rfl
  ·have h := cfalse h g22
   refine wpE_skip ?_
   show wpE _ _ _ _ _ _ _ _
   refine e_reg (k_fadrB (o := 0) f20 k5 (k_loadB rfl k5 rfl (k_len rfl (sv.any [] _ q2) (k_mov f19 (k_lenS rfl (k_bin rfl rfl rfl (k_mov rfl ?_)))))))
   obtain ⟨u42, e43, h⟩ := bnd_e h
   refine k_nil (wpE_ret ?_)
   cases h
   exact e_ret (ct := 0) (.tmp (cgB e43) (back_sc rfl) .nil) rfl
end Go.Proofs.YtagbgmkocjfanaaGreatDoor

/-
 The small code of functions comes to the Lean functions. Printed by a program of mine.
-/
namespace Go.Proofs.YtagbgmkocjfanaaGreatDoor
open Go Go.Abs
set_option maxRecDepth 100000
set_option maxHeartbeats 8000000
theorem s28 {x0 : T_api_Plan} {cx0 : List IV} {x1 : List UInt8} {x2 : List UInt8} {x3 : Int} {r : Bool × Bool × Int} (hx0 : R_api_Plan.rp false cx0 x0) (h : F28_dialplan_Waits x0 x1 x2 x3 = some r) : pc L 28 [.agg (cx0.map I), .c (I (.str x1)), .c (I (.str x2)), .c (I (.int .i64 x3))] true (P28 r) := by
 refine fn_pure (fn := ir28) rfl (Nat.le_of_ble_eq_true rfl) fun lent hl => ?_
 unfold F28_dialplan_Waits at h
 obtain ⟨v1, v3, rfl, q2, q4⟩ := R_api_Plan.inv hx0
 refine e_reg ?_
 refine k_box rfl rfl fun g5 hp6 k7 r8 => ?_
 refine k_mov rfl (k_mov rfl (k_mov rfl (k_nil (e_reg (k_loadB rfl k7 rfl (k_mov rfl (k_mov rfl ?_)))))))
 refine k_mov rfl ?_
 obtain ⟨y9, e10, h⟩ := obind h
 refine k_call (.cons rfl rfl (.cons rfl rfl (.cons rfl rfl (.cons rfl rfl .nil)))) (s77 (cx0 := [(IV.retag 1 v1), (IV.retag 1 v3)]) (R_api_Plan.mk (sv_retag q2) (sv_retag q4)) e10) (.inr rfl) ?_
 rintro _ ⟨v12, rfl, q13⟩
 refine k_movT rfl (k_ext rfl rfl (k_ext rfl rfl (k_mov rfl (k_mov rfl (k_nil (wpE_seq (e_reg ?_)))))))
 refine k_mov rfl (k_bin rfl rfl rfl (k_nil ?_))
 refine wpE_cond (p := (y9.2 != ((0 : Int)))) rfl (fun g14 => ?_) (fun g14 => ?_)
 ·have h := ctrue h g14
  refine e_reg (k_mov rfl (k_mov rfl (k_mov rfl (k_mov rfl (k_nil (wpE_ret ?_))))))
  cases h
  exact e_ret (ct := 0) (.tmp rfl (back_sc rfl) (.tmp rfl (back_sc rfl) (.tmp rfl (back_sc rfl) .nil))) rfl
 ·have h := cfalse h g14
  refine wpE_skip ?_
  show wpE _ _ _ _ _ _ _ _
  refine e_reg (k_mov rfl (k_mov rfl (k_nil (wpE_seq (e_reg (k_mov rfl (k_len rfl (sv.any [] _ q13) ?_)))))))
  refine k_mov rfl (k_nil (wpE_block ?_))
  refine gE fun σ15 e16 => ?_
  have f17 : σ15 2 = V (.str x2) := (congrFun e16 2).trans rfl
  have f18 : σ15 3 = V (.int .i64 x3) := (congrFun e16 3).trans rfl
  have f19 : σ15 4 = .v (.c (.r (.ptr 4 g5 0))) := (congrFun e16 4).trans rfl
  have f20 : σ15 13 = V (.bool false) := (congrFun e16 13).trans rfl
  have f21 : σ15 14 = V (.bool false) := (congrFun e16 14).trans rfl
  have f22 : σ15 32 = .v (.c ((I v12))) := (congrFun e16 32).trans rfl
  have f23 : σ15 33 = V (.int .i64 ((List.length y9.1 : Int))) := (congrFun e16 33).trans rfl
  have f24 : σ15 34 = V (.int .i64 ((0 : Int))) := (congrFun e16 34).trans rfl
  obtain ⟨e25, h26, h⟩ := obind h
  refine wpE_mono (e_loop h26 (I := fun s σ' hp' _ => σ' 13 = V (.bool s.1) ∧ σ' 14 = V (.bool s.2.1) ∧ σ' 34 = V (.int .i64 s.2.2) ∧ Keep [13, 14, 16, 18, 19, 20] 34 74 σ15 σ' ∧ Fr [16, 18, 19] hp6 hp') (X := fun e ex σ' hp' _ => ex = .exit 0 ∧ σ' 13 = V (.bool e.1) ∧ σ' 14 = V (.bool e.2) ∧ Keep [13, 14, 16, 18, 19, 20] 34 74 σ15 σ' ∧ Fr [16, 18, 19] hp6 hp') ⟨f20, f21, f24, Keep.refl _ _ _ _, Fr.refl _ _⟩ ?_) ?_
  ·clear h
   rintro ⟨w27, w28, w29⟩ o σ33 hp34 _ h ⟨f30, f31, f32, k35, r36⟩
   have h : F28_dialplan_Waits_l0 x0 x2 x3 y9 w27 w28 w29 = some o := h; unfold F28_dialplan_Waits_l0 at h
   have f37 : σ33 2 = V (.str x2) := (k35 2 rfl).trans f17
   have f38 : σ33 3 = V (.int .i64 x3) := (k35 3 rfl).trans f18
   have f39 : σ33 4 = .v (.c (.r (.ptr 4 g5 0))) := (k35 4 rfl).trans f19
   have f40 : σ33 32 = .v (.c ((I v12))) := (k35 32 rfl).trans f22
   have f41 : σ33 33 = V (.int .i64 ((List.length y9.1 : Int))) := (k35 33 rfl).trans f23
   have k42 := (r36 4 (by decide)).trans k7
   show wpE _ _ _ _ _ _ _ _
   refine e_reg (k_bin f32 f41 rfl (k_nil (wpE_seq ?_)))
   refine wpE_cond (p := (decide (w29 < ((List.length y9.1 : Int))))) rfl (fun g43 => ?_) (fun g43 => ?_)
   ·have h := ctrue h g43
    refine wpE_skip ?_
    show wpE _ _ _ _ _ _ _ _
    refine wpE_seq (wpE_block (e_reg ?_))
    obtain ⟨y44, e45, h⟩ := obind h
    refine k_iadrL f40 (sv.any [] _ q13) f32 e45 rfl fun p46 c47 q48 h49 => ?_
    obtain ⟨v50, v52, rfl, q51, q53⟩ := R_api_Context.inv h49
    refine k_loadL rfl q48 rfl ?_
    refine k_alloc fun g54 hp55 k56 r57 => ?_
    have r58 : Fr [16, 18, 19] hp6 hp55 := Fr.ext r36 r57 rfl
    have k59 := (r57 4 (by decide)).trans k42
    refine k_storeB rfl rfl k56 rfl fun hp60 k61 r62 => ?_
    have r63 : Fr [16, 18, 19] hp6 hp60 := Fr.ext r58 r62 rfl
    have k64 := (r62 4 (by decide)).trans k59
    refine k_nil (e_reg (k_mov f30 (k_mov rfl ?_)))
    refine gL fun σ65 e66 => ?_
    have k67 : Keep [13, 14, 16, 18, 19, 20] 34 74 σ15 σ65 := by rw [e66]; repeat (first | exact k35 | refine Keep.upd ?_ rfl _)
    have f68 : σ65 2 = V (.str x2) := (congrFun e66 2).trans f37
    have f69 : σ65 3 = V (.int .i64 x3) := (congrFun e66 3).trans f38
    have f70 : σ65 4 = .v (.c (.r (.ptr 4 g5 0))) := (congrFun e66 4).trans f39
    have f71 : σ65 14 = V (.bool w28) := (congrFun e66 14).trans f31
    have f74 : σ65 34 = V (.int .i64 w29) := (congrFun e66 34).trans f32
    have f75 : σ65 16 = .v (.c (.r (.ptr 16 g54 0))) := (congrFun e66 16).trans rfl
    have f76 : σ65 39 = V (.bool w27) := (congrFun e66 39).trans rfl
    obtain ⟨y81, e82, h⟩ := obind h
    refine k_mid (fun σ' hp' _ => hp60 = hp' ∧ σ' 46 = V (.bool y81) ∧ Keep [] 40 46 σ65 σ') ?_ ?_
    ·rcases bt w27 with g77 | g77
     ·have h := ctrue e82 g77
      refine k_no (f76.trans (cgB g77)) rfl (k_no (f76.trans (cgB g77)) rfl (k_no (f76.trans (cgB g77)) rfl (k_no (f76.trans (cgB g77)) rfl (k_no (f76.trans (cgB g77)) rfl (k_no (f76.trans (cgB g77)) rfl (k_pickT (f76.trans (cgB g77)) rfl ?_))))))
      exact ⟨rfl, cgB (Option.some.inj h), (by repeat (first | exact (Keep.refl _ _ _ _) | refine Keep.upd ?_ rfl _))⟩
     ·have h := cfalse e82 g77
      refine k_yes (f76.trans (cgB g77)) (k_loadB f70 k64 rfl (k_yes (f76.trans (cgB g77)) (k_loadB f75 k61 rfl (k_yes (f76.trans (cgB g77)) (k_mov f68 (k_yes (f76.trans (cgB g77)) (k_mov f69 ?_)))))))
      refine k_yes (f76.trans (cgB g77)) ?_
      obtain ⟨y78, e79, h⟩ := obind h
      refine k_call (.cons rfl rfl (.cons rfl rfl (.cons rfl rfl (.cons rfl rfl .nil)))) (s78 (cx0 := [(IV.retag 1 v1), (IV.retag 1 v3)]) (R_api_Plan.mk (sv_retag q2) (sv_retag q4)) (cx1 := [IV.str y44.Key, (IV.retag 1 v50), (IV.retag 1 v52)]) (R_api_Context.mk (sv_retag q51) (sv_retag q53)) e79) (.inl rfl) ?_
      rintro _ rfl
      refine k_yes (f76.trans (cgB g77)) (k_bin rfl rfl rfl (k_pickF (f76.trans (cgB g77)) rfl ?_))
      exact ⟨rfl, cgB (Option.some.inj h), (by repeat (first | exact (Keep.refl _ _ _ _) | refine Keep.upd ?_ rfl _))⟩
    rintro σ83 _ _ ⟨rfl, f85, k84⟩
    have f86 : σ83 2 = V (.str x2) := (k84 2 rfl).trans f68
    have f87 : σ83 3 = V (.int .i64 x3) := (k84 3 rfl).trans f69
    have f88 : σ83 4 = .v (.c (.r (.ptr 4 g5 0))) := (k84 4 rfl).trans f70
    have f89 : σ83 14 = V (.bool w28) := (k84 14 rfl).trans f71
    have f92 : σ83 34 = V (.int .i64 w29) := (k84 34 rfl).trans f74
    have f93 : σ83 16 = .v (.c (.r (.ptr 16 g54 0))) := (k84 16 rfl).trans f75
    have k94 : Keep [13, 14, 16, 18, 19, 20] 34 74 σ15 σ83 := Keep.trans k67 (Keep.sub k84 rfl)
    refine k_mov f85 (k_nil (e_reg (k_fadrB (o := 1) f93 k61 (k_loadB rfl k61 rfl (k_len rfl (sv.any [] _ q51) (k_mov rfl (k_nil ?_)))))))
    refine wpE_block ?_
    refine gE fun σ95 e96 => ?_
    have k97 : Keep [13, 14, 16, 18, 19, 20] 34 74 σ15 σ95 := by rw [e96]; repeat (first | exact k94 | refine Keep.upd ?_ rfl _)
    have f98 : σ95 2 = V (.str x2) := (congrFun e96 2).trans f86
    have f99 : σ95 3 = V (.int .i64 x3) := (congrFun e96 3).trans f87
    have f100 : σ95 4 = .v (.c (.r (.ptr 4 g5 0))) := (congrFun e96 4).trans f88
    have f101 : σ95 14 = V (.bool w28) := (congrFun e96 14).trans f89
    have f104 : σ95 34 = V (.int .i64 w29) := (congrFun e96 34).trans f92
    have f105 : σ95 13 = V (.bool y81) := (congrFun e96 13).trans rfl
    have f106 : σ95 48 = .v (.c ((I v50))) := (congrFun e96 48).trans rfl
    have f107 : σ95 49 = V (.int .i64 ((List.length y44.Rules : Int))) := (congrFun e96 49).trans rfl
    have f108 : σ95 50 = V (.int .i64 ((0 : Int))) := (congrFun e96 50).trans rfl
    obtain ⟨y248, h110, h⟩ := obind h
    refine wpE_mono (e_loop h110 (I := fun s σ' hp' _ => σ' 14 = V (.bool s.1) ∧ σ' 50 = V (.int .i64 s.2) ∧ Keep [14, 18, 19, 20] 50 73 σ95 σ' ∧ Fr [18, 19] hp60 hp') (X := fun e ex σ' hp' _ => ex = .exit 2 ∧ σ' 14 = V (.bool e) ∧ Keep [14, 18, 19, 20] 50 73 σ95 σ' ∧ Fr [18, 19] hp60 hp') ⟨f101, f108, Keep.refl _ _ _ _, Fr.refl _ _⟩ ?_) ?_
    ·clear h
     rintro ⟨w111, w112⟩ o σ115 hp116 _ h ⟨f113, f114, k117, r118⟩
     have h : F28_dialplan_Waits_l1 x0 x2 x3 y44 w111 w112 = some o := h; unfold F28_dialplan_Waits_l1 at h
     have f119 : σ115 2 = V (.str x2) := (k117 2 rfl).trans f98
     have f120 : σ115 3 = V (.int .i64 x3) := (k117 3 rfl).trans f99
     have f121 : σ115 4 = .v (.c (.r (.ptr 4 g5 0))) := (k117 4 rfl).trans f100
     have f126 : σ115 48 = .v (.c ((I v50))) := (k117 48 rfl).trans f106
     have f127 : σ115 49 = V (.int .i64 ((List.length y44.Rules : Int))) := (k117 49 rfl).trans f107
     have k130 := (r118 4 (by decide)).trans k64
     show wpE _ _ _ _ _ _ _ _
     refine e_reg (k_bin f114 f127 rfl (k_nil (wpE_seq ?_)))
     refine wpE_cond (p := (decide (w112 < ((List.length y44.Rules : Int))))) rfl (fun g131 => ?_) (fun g131 => ?_)
     ·have h := ctrue h g131
      refine wpE_skip ?_
      show wpE _ _ _ _ _ _ _ _
      refine wpE_seq (wpE_block (e_reg ?_))
      obtain ⟨y132, e133, h⟩ := obind h
      refine k_iadrL f126 (sv.any [] _ q51) f114 e133 rfl fun p134 c135 q136 h137 => ?_
      obtain ⟨_, rfl⟩ := R_api_Rule.inv h137
      refine k_loadL rfl q136 rfl ?_
      refine k_alloc fun g138 hp139 k140 r141 => ?_
      have r143 : Fr [18, 19] hp60 hp139 := Fr.ext r118 r141 rfl
      have k144 := (r141 4 (by decide)).trans k130
      refine k_storeB rfl rfl k140 rfl fun hp145 k146 r147 => ?_
      have r149 : Fr [18, 19] hp60 hp145 := Fr.ext r143 r147 rfl
      have k150 := (r147 4 (by decide)).trans k144
      refine k_nil (e_reg (k_fadrB (o := 0) rfl k146 (k_loadB rfl k146 rfl ?_)))
      obtain ⟨y151, e152, h⟩ := obind h
      refine k_call (.cons rfl rfl .nil) (s79  e152) (.inl rfl) ?_
      rintro _ ⟨c154, rfl, q155⟩
      obtain ⟨v156, rfl, q157⟩ := R_dialplan_pattern.inv q155
      refine k_movT rfl (k_ext rfl rfl (k_ext rfl rfl ?_))
      refine k_alloc fun g158 hp159 k160 r161 => ?_
      have r163 : Fr [18, 19] hp60 hp159 := Fr.ext r149 r161 rfl
      have k164 := (r161 4 (by decide)).trans k150
      have k165 := (r161 18 (by decide)).trans k146
      refine k_storeB rfl rfl k160 rfl fun hp166 k167 r168 => ?_
      have r170 : Fr [18, 19] hp60 hp166 := Fr.ext r163 r168 rfl
      have k171 := (r168 4 (by decide)).trans k164
      have k172 := (r168 18 (by decide)).trans k165
      refine k_mov rfl (k_nil (e_last (k_mov f113 (k_mov rfl ?_))))
      refine gL fun σ173 e174 => ?_
      have k176 : Keep [14, 18, 19, 20] 50 73 σ95 σ173 := by rw [e174]; repeat (first | exact k117 | refine Keep.upd ?_ rfl _)
      have f177 : σ173 2 = V (.str x2) := (congrFun e174 2).trans f119
      have f178 : σ173 3 = V (.int .i64 x3) := (congrFun e174 3).trans f120
      have f179 : σ173 4 = .v (.c (.r (.ptr 4 g5 0))) := (congrFun e174 4).trans f121
      have f186 : σ173 50 = V (.int .i64 w112) := (congrFun e174 50).trans f114
      have f187 : σ173 18 = .v (.c (.r (.ptr 18 g138 0))) := (congrFun e174 18).trans rfl
      have f188 : σ173 19 = .v (.c (.r (.ptr 19 g158 0))) := (congrFun e174 19).trans rfl
      have f189 : σ173 61 = V (.bool w111) := (congrFun e174 61).trans rfl
      obtain ⟨y231, e232, h⟩ := obind h
      refine k_mid (fun σ' hp' _ => hp166 = hp' ∧ σ' 72 = V (.bool y231) ∧ Keep [] 62 72 σ173 σ') ?_ ?_
      ·rcases bt w111 with g190 | g190
       ·have h := ctrue e232 g190
        refine k_no (f189.trans (cgB g190)) rfl (k_no (f189.trans (cgB g190)) rfl (k_no (f189.trans (cgB g190)) rfl (k_no (f189.trans (cgB g190)) rfl (k_no (f189.trans (cgB g190)) rfl (k_no (f189.trans (cgB g190)) rfl (k_noS rfl (k_noS rfl ?_)))))))
        refine k_noS rfl (k_no (f189.trans (cgB g190)) rfl (k_pickT (f189.trans (cgB g190)) rfl ?_))
        exact ⟨rfl, cgB (Option.some.inj h), (by repeat (first | exact (Keep.refl _ _ _ _) | refine Keep.upd ?_ rfl _))⟩
       ·have h := cfalse e232 g190
        refine k_yes (f189.trans (cgB g190)) (k_loadB f179 k171 rfl (k_yes (f189.trans (cgB g190)) (k_fadrB (o := 5) f187 k172 (k_yes (f189.trans (cgB g190)) (k_loadB rfl k172 rfl (k_yes (f189.trans (cgB g190)) (k_mov f178 ?_)))))))
        refine k_yes (f189.trans (cgB g190)) ?_
        obtain ⟨y191, e192, h⟩ := obind h
        refine k_call (.cons rfl rfl (.cons rfl rfl (.cons rfl rfl .nil))) (s80 (cx0 := [(IV.retag 1 v1), (IV.retag 1 v3)]) (R_api_Plan.mk (sv_retag q2) (sv_retag q4)) e192) (.inl rfl) ?_
        rintro _ rfl
        refine k_yes (f189.trans (cgB g190)) (k_mov rfl ?_)
        refine gL fun σ194 e195 => ?_
        have k196 : Keep [] 62 72 σ173 σ194 := by rw [e195]; repeat (first | exact (Keep.refl _ _ _ _) | refine Keep.upd ?_ rfl _)
        have f197 : σ194 2 = V (.str x2) := (congrFun e195 2).trans f177
        have f207 : σ194 19 = .v (.c (.r (.ptr 19 g158 0))) := (congrFun e195 19).trans f188
        have f208 : σ194 61 = V (.bool false) := (congrFun e195 61).trans (f189.trans (cgB g190))
        have f209 : σ194 67 = V (.bool y191) := (congrFun e195 67).trans rfl
        obtain ⟨y214, e215, h⟩ := obind h
        refine k_mid (fun σ' hp' _ => hp166 = hp' ∧ σ' 71 = V (.bool y214) ∧ Keep [] 68 71 σ194 σ') ?_ ?_
        ·rcases bt y191 with g210 | g210
         ·have h := ctrue e215 g210
          refine k_yes (f209.trans (cgB g210)) (k_loadB f207 k167 rfl (k_yes (f209.trans (cgB g210)) (k_mov f197 (k_yes (f209.trans (cgB g210)) ?_))))
          obtain ⟨y211, e212, h⟩ := obind h
          refine k_call (.cons rfl rfl (.cons rfl rfl .nil)) (s81 (cx0 := [(IV.retag 1 v156), IV.int .u8 y151.1.tail]) (R_dialplan_pattern.mk (sv_retag q157)) e212) (.inl rfl) ?_
          rintro _ rfl
          refine k_yes f208 (k_pickT (f209.trans (cgB g210)) rfl ?_)
          exact ⟨rfl, cgB (Option.some.inj h), (by repeat (first | exact (Keep.refl _ _ _ _) | refine Keep.upd ?_ rfl _))⟩
         ·have h := cfalse e215 g210
          refine k_no (f209.trans (cgB g210)) rfl (k_no (f209.trans (cgB g210)) rfl (k_no (f209.trans (cgB g210)) rfl (k_yes f208 (k_pickF (f209.trans (cgB g210)) rfl ?_))))
          exact ⟨rfl, cgB (Option.some.inj h), (by repeat (first | exact (Keep.refl _ _ _ _) | refine Keep.upd ?_ rfl _))⟩
        rintro σ216 _ _ ⟨rfl, f218, k217⟩
        have f229 : σ216 61 = V (.bool false) := (k217 61 rfl).trans f208
        have k230 : Keep [] 62 72 σ173 σ216 := Keep.trans k196 (Keep.sub k217 rfl)
        refine k_pickF f229 f218 ?_
        exact ⟨rfl, cgB (Option.some.inj h), (by repeat (first | exact k230 | refine Keep.upd ?_ rfl _))⟩
      rintro σ233 _ _ ⟨rfl, f235, k234⟩
      have f245 : σ233 50 = V (.int .i64 w112) := (k234 50 rfl).trans f186
      have k247 : Keep [14, 18, 19, 20] 50 73 σ95 σ233 := Keep.trans k176 (Keep.sub k234 rfl)
      refine k_mov f235 (k_nil ?_)
      show wpE _ _ _ _ _ _ _ _
      refine e_last (k_bin f245 rfl rfl (k_mov rfl (k_nil ?_)))
      cases h
      exact ⟨rfl, rfl, rfl, (by repeat (first | exact k247 | refine Keep.upd ?_ rfl _)), r170⟩
     ·have h := cfalse h g131
      refine wpE_exit ?_
      cases h
      exact ⟨by decide, rfl, f113, (by repeat (first | exact k117 | refine Keep.upd ?_ rfl _)), r118⟩
    rintro _ σ249 hp250 _ ⟨rfl, f253, k251, r252⟩
    have f259 : σ249 34 = V (.int .i64 w29) := (k251 34 rfl).trans f104
    have f260 : σ249 13 = V (.bool y81) := (k251 13 rfl).trans f105
    have k261 : Keep [13, 14, 16, 18, 19, 20] 34 74 σ15 σ249 := Keep.trans k97 (Keep.sub k251 rfl)
    have r262 : Fr [16, 18, 19] hp6 hp250 := Fr.ext r63 r252 rfl
    show wpE _ _ _ _ _ _ _ _
    refine e_last (k_bin f259 rfl rfl (k_mov rfl (k_nil ?_)))
    cases h
    exact ⟨rfl, f260, f253, rfl, (by repeat (first | exact k261 | refine Keep.upd ?_ rfl _)), r262⟩
   ·have h := cfalse h g43
    refine wpE_exit ?_
    cases h
    exact ⟨by decide, rfl, f30, f31, (by repeat (first | exact k35 | refine Keep.upd ?_ rfl _)), r36⟩
  obtain ⟨y264, y265⟩ := e25
  rintro _ σ266 hp267 _ ⟨rfl, f270, f271, k268, r269⟩
  show wpE _ _ _ _ _ _ _ _
  refine e_reg (k_mov f270 (k_mov f271 (k_mov rfl (k_mov rfl (k_mov rfl (k_nil (wpE_ret ?_)))))))
  cases h
  exact e_ret (ct := 0) (.tmp rfl (back_sc rfl) (.tmp rfl (back_sc rfl) (.tmp rfl (back_sc rfl) .nil))) rfl
end Go.Proofs.YtagbgmkocjfanaaGreatDoor
