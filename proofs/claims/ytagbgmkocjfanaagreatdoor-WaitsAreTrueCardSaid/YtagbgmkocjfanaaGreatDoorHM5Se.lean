/-
 The small code of functions comes to the Lean functions. Printed by a program of mine.
-/
import Derived.Test.YtagbgmkocjfanaaGreatDoorHM5Sd
namespace Go.Proofs.YtagbgmkocjfanaaGreatDoor
open Go Go.Abs
set_option maxRecDepth 100000
set_option maxHeartbeats 8000000
theorem s29 {x0 : T_api_Plan} {cx0 : List IV} {x1 : List UInt8} {x2 : List UInt8} {x3 : Int} {r : T_api_Hit × Int} (hx0 : R_api_Plan.rp false cx0 x0) (h : F29_dialplan_Decide x0 x1 x2 x3 = some r) : pc L 29 [.agg (cx0.map I), .c (I (.str x1)), .c (I (.str x2)), .c (I (.int .i64 x3))] true (P29 r) := by
 refine fn_pure (fn := ir29) rfl (Nat.le_of_ble_eq_true rfl) fun lent hl => ?_
 unfold F29_dialplan_Decide at h
 obtain ⟨v1, v3, rfl, q2, q4⟩ := R_api_Plan.inv hx0
 refine e_reg ?_
 refine k_box rfl rfl fun g5 hp6 k7 r8 => ?_
 refine k_alloc fun g9 hp10 k11 r12 => ?_
 have k13 := (r12 4 (by decide)).trans k7
 refine k_mov rfl (k_nil (e_reg (k_loadB rfl k13 rfl (k_mov rfl (k_mov rfl (k_mov rfl ?_))))))
 obtain ⟨y14, e15, h⟩ := obind h
 refine k_call (.cons rfl rfl (.cons rfl rfl (.cons rfl rfl (.cons rfl rfl .nil)))) (s77 (cx0 := [(IV.retag 1 v1), (IV.retag 1 v3)]) (R_api_Plan.mk (sv_retag q2) (sv_retag q4)) e15) (.inr rfl) ?_
 rintro _ ⟨v17, rfl, q18⟩
 refine k_movT rfl (k_ext rfl rfl (k_ext rfl rfl (k_mov rfl (k_mov rfl (k_nil (wpE_seq (e_reg ?_)))))))
 refine k_mov rfl (k_bin rfl rfl rfl (k_nil ?_))
 refine wpE_cond (p := (y14.2 != ((0 : Int)))) rfl (fun g19 => ?_) (fun g19 => ?_)
 ·have h := ctrue h g19
  refine e_reg (k_build .nil rfl (k_mov rfl ?_))
  refine k_storeB rfl rfl k11 rfl fun hp20 k21 r22 => ?_
  refine k_mov rfl (k_nil (wpE_ret ?_))
  cases h
  exact e_ret (ct := 0) (.cell rfl k21 rfl (BackP.agg (.cons (backC_inl fun _ => rfl) (.cons (backC_inl fun _ => rfl) (.cons (backC_inl fun _ => rfl) (.cons (backC_inl fun _ => rfl) (.cons (backC_inl fun _ => rfl) .nil)))))) (.tmp rfl (back_sc rfl) .nil)) ⟨[IV.str (([] : List UInt8)), IV.int .i64 ((0 : Int)), IV.int .i64 ((0 : Int)), IV.str (([] : List UInt8)), IV.str (([] : List UInt8))], rfl, (R_api_Hit.mk)⟩
 ·have h := cfalse h g19
  refine wpE_skip ?_
  show wpE _ _ _ _ _ _ _ _
  refine wpE_seq (e_reg (k_mov rfl (k_len rfl (sv.any [] _ q18) (k_mov rfl (k_nil (wpE_block ?_))))))
  refine gE fun σ23 e24 => ?_
  have f25 : σ23 2 = V (.str x2) := (congrFun e24 2).trans rfl
  have f26 : σ23 3 = V (.int .i64 x3) := (congrFun e24 3).trans rfl
  have f27 : σ23 4 = .v (.c (.r (.ptr 4 g5 0))) := (congrFun e24 4).trans rfl
  have f28 : σ23 8 = .v (.c (.r (.ptr 8 g9 0))) := (congrFun e24 8).trans rfl
  have f29 : σ23 29 = .v (.c ((I v17))) := (congrFun e24 29).trans rfl
  have f30 : σ23 30 = V (.int .i64 ((List.length y14.1 : Int))) := (congrFun e24 30).trans rfl
  have f31 : σ23 31 = V (.int .i64 ((0 : Int))) := (congrFun e24 31).trans rfl
  obtain ⟨e32, h33, h⟩ := lret_e h
  refine wpE_mono (e_loop h33 (I := fun s σ' hp' _ => σ' 31 = V (.int .i64 s.1) ∧ (∃ c, hp'.get 8 = some (.cells g9 (c.map I)) ∧ R_api_Hit.rp true c s.2) ∧ Keep [9, 13, 14, 15, 16] 31 85 σ23 σ' ∧ Fr [8, 13, 15, 16] hp10 hp') (X := fun e ex σ' hp' _ => match e with | .inl e => ex = .exit 0 ∧ (∃ c, hp'.get 8 = some (.cells g9 (c.map I)) ∧ R_api_Hit.rp true c e) ∧ Keep [9, 13, 14, 15, 16] 31 85 σ23 σ' ∧ Fr [8, 13, 15, 16] hp10 hp' | .inr r => ex = .ret ∧ ∀ ct, atEnd 87 [Res.cell 8 5 true, Res.tmp 9] (fin lent (P29 r)) .ret σ' hp' ct) ⟨f31, ⟨[IV.str (([] : List UInt8)), IV.int .i64 ((0 : Int)), IV.int .i64 ((0 : Int)), IV.str (([] : List UInt8)), IV.str (([] : List UInt8))], k11, (R_api_Hit.mk)⟩, Keep.refl _ _ _ _, Fr.refl _ _⟩ ?_) ?_
  ·clear h
   rintro ⟨w34, w35⟩ o σ40 hp41 _ h ⟨f36, ⟨c37, k38, h39⟩, k42, r43⟩
   have h : F29_dialplan_Decide_l0 x0 x2 x3 y14 w34 w35 = some o := h; unfold F29_dialplan_Decide_l0 at h
   have f44 : σ40 2 = V (.str x2) := (k42 2 rfl).trans f25
   have f45 : σ40 3 = V (.int .i64 x3) := (k42 3 rfl).trans f26
   have f46 : σ40 4 = .v (.c (.r (.ptr 4 g5 0))) := (k42 4 rfl).trans f27
   have f47 : σ40 8 = .v (.c (.r (.ptr 8 g9 0))) := (k42 8 rfl).trans f28
   have f48 : σ40 29 = .v (.c ((I v17))) := (k42 29 rfl).trans f29
   have f49 : σ40 30 = V (.int .i64 ((List.length y14.1 : Int))) := (k42 30 rfl).trans f30
   have k50 := (r43 4 (by decide)).trans k13
   obtain ⟨_, rfl⟩ := R_api_Hit.inv h39
   show wpE _ _ _ _ _ _ _ _
   refine e_reg (k_bin f36 f49 rfl (k_nil (wpE_seq ?_)))
   refine wpE_cond (p := (decide (w34 < ((List.length y14.1 : Int))))) rfl (fun g51 => ?_) (fun g51 => ?_)
   ·have h := ctrue h g51
    refine wpE_skip ?_
    show wpE _ _ _ _ _ _ _ _
    refine wpE_seq (wpE_block (e_reg ?_))
    obtain ⟨y52, e53, h⟩ := obind h
    refine k_iadrL f48 (sv.any [] _ q18) f36 e53 rfl fun p54 c55 q56 h57 => ?_
    obtain ⟨v58, v60, rfl, q59, q61⟩ := R_api_Context.inv h57
    refine k_loadL rfl q56 rfl ?_
    refine k_alloc fun g62 hp63 k64 r65 => ?_
    have r66 : Fr [8, 13, 15, 16] hp10 hp63 := Fr.ext r43 r65 rfl
    have k67 := (r65 4 (by decide)).trans k50
    have k68 := (r65 8 (by decide)).trans k38
    refine k_storeB rfl rfl k64 rfl fun hp69 k70 r71 => ?_
    have r72 : Fr [8, 13, 15, 16] hp10 hp69 := Fr.ext r66 r71 rfl
    have k73 := (r71 4 (by decide)).trans k67
    have k74 := (r71 8 (by decide)).trans k68
    refine k_nil (e_reg (k_loadB f46 k73 rfl (k_loadB rfl k70 rfl (k_mov f44 (k_mov f45 ?_)))))
    obtain ⟨y75, e76, h⟩ := obind h
    refine k_call (.cons rfl rfl (.cons rfl rfl (.cons rfl rfl (.cons rfl rfl .nil)))) (s78 (cx0 := [(IV.retag 1 v1), (IV.retag 1 v3)]) (R_api_Plan.mk (sv_retag q2) (sv_retag q4)) (cx1 := [IV.str y52.Key, (IV.retag 1 v58), (IV.retag 1 v60)]) (R_api_Context.mk (sv_retag q59) (sv_retag q61)) e76) (.inl rfl) ?_
    rintro _ rfl
    refine k_mov rfl (k_nil (wpE_seq (e_reg (k_mov rfl (k_bin rfl rfl rfl (k_nil ?_))))))
    refine wpE_cond (p := (decide (y75 < ((0 : Int))))) rfl (fun g78 => ?_) (fun g78 => ?_)
    ·have h := ctrue h g78
     refine wpE_exit ?_
     show wpE _ _ _ _ _ _ _ _
     refine e_last (k_bin f36 rfl rfl (k_mov rfl (k_nil ?_)))
     cases h
     exact ⟨rfl, rfl, ⟨[IV.str w35.Context, IV.int .i64 w35.Rule, IV.int .i64 w35.To, IV.str w35.Name, IV.str w35.Dialled], k74, (R_api_Hit.mk)⟩, (by repeat (first | exact k42 | refine Keep.upd ?_ rfl _)), r72⟩
    ·have h := cfalse h g78
     refine wpE_skip ?_
     show wpE _ _ _ _ _ _ _ _
     refine e_reg (k_fadrB (o := 1) rfl k70 (k_loadB rfl k70 rfl (k_mov rfl ?_)))
     obtain ⟨y79, e80, h⟩ := obind h
     refine k_iadrL rfl (sv.any [] _ q59) rfl e80 rfl fun p81 c82 q83 h84 => ?_
     obtain ⟨_, rfl⟩ := R_api_Rule.inv h84
     refine k_loadL rfl q83 rfl ?_
     refine k_alloc fun g85 hp86 k87 r88 => ?_
     have k90 := (r88 8 (by decide)).trans k74
     have k91 := (r88 13 (by decide)).trans k70
     refine k_storeB rfl rfl k87 rfl fun hp92 k93 r94 => ?_
     have k96 := (r94 8 (by decide)).trans k90
     have k97 := (r94 13 (by decide)).trans k91
     refine k_nil (e_regT (by kernel_rfl) (by kernel_rfl) ?_)
     refine t_r (S := [13]) (dep_fadr rfl (List.mem_singleton.2 rfl)) ?_
     refine k_fadrB (o := 0) rfl k97 (k_nil ?_)
     refine t_r (S := [13]) (dep_load rfl (List.mem_singleton.2 rfl)) ?_
     refine k_loadB rfl k97 rfl (k_nil ?_)
     refine t_n ?_
     refine k_mov rfl (k_nil ?_)
     refine t_r (S := [15]) (dep_fadr rfl (List.mem_singleton.2 rfl)) ?_
     refine k_fadrB (o := 3) rfl k93 (k_nil ?_)
     refine t_r (S := [15]) (dep_load rfl (List.mem_singleton.2 rfl)) ?_
     refine k_loadB rfl k93 rfl (k_nil ?_)
     refine t_r (S := [15]) (dep_fadr rfl (List.mem_singleton.2 rfl)) ?_
     refine k_fadrB (o := 4) rfl k93 (k_nil ?_)
     refine t_r (S := [15]) (dep_load rfl (List.mem_singleton.2 rfl)) ?_
     refine k_loadB rfl k93 rfl (k_nil ?_)
     refine t_r (S := [15]) (dep_fadr rfl (List.mem_singleton.2 rfl)) ?_
     refine k_fadrB (o := 2) rfl k93 (k_nil ?_)
     refine t_r (S := [15]) (dep_load rfl (List.mem_singleton.2 rfl)) ?_
     refine k_loadB rfl k93 rfl (k_nil ?_)
     refine t_n ?_
     refine k_mov f44 (k_nil ?_)
     refine t_r (S := [15]) (dep_fadr rfl (List.mem_singleton.2 rfl)) ?_
     refine k_fadrB (o := 1) rfl k93 (k_nil ?_)
     refine t_r (S := [15]) (dep_load rfl (List.mem_singleton.2 rfl)) ?_
     refine k_loadB rfl k93 rfl (k_nil ?_)
     refine t_n ?_
     refine k_mov f44 (k_nil ?_)
     refine t_n ?_
     refine k_lenS rfl (k_nil ?_)
     refine t_n ?_
     refine k_mn2 rfl rfl (k_nil ?_)
     obtain ⟨y98, e99, h⟩ := obind h
     refine t_n ?_
     refine k_slcT rfl (.some rfl) .none e99 (k_nil ?_)
     obtain ⟨y100, e101, h⟩ := obind h
     refine t_n ?_
     refine k_sadd rfl rfl e101 (k_nil ?_)
     refine t_n ?_
     refine k_build (.cons rfl (.cons rfl (.cons rfl (.cons rfl (.cons rfl .nil))))) rfl (k_nil ?_)
     refine t_t ?_
     refine k_alloc fun g102 hp103 k104 r105 => ?_
     have k107 := (r105 8 (by decide)).trans k96
     have k108 := (r105 15 (by decide)).trans k93
     refine k_nil ⟨r105, ?_⟩
     refine t_t ?_
     refine k_storeB rfl rfl k104 rfl fun hp109 k110 r111 => ?_
     have k113 := (r111 8 (by decide)).trans k107
     have k114 := (r111 15 (by decide)).trans k108
     refine k_nil ⟨r111, ?_⟩
     refine t_nil (wpE_seq (e_reg (k_fadrB (o := 4) rfl k110 (k_loadB rfl k110 rfl (k_lenS rfl (k_bin rfl rfl rfl (k_nil ?_)))))))
     refine wpE_cond (p := (decide (((List.length y100 : Int)) > ((30 : Int))))) rfl (fun g115 => ?_) (fun g115 => ?_)
     ·have h := ctrue h g115
      refine e_reg (k_build .nil rfl ?_)
      refine k_storeB f47 rfl k113 rfl fun hp116 k117 r118 => ?_
      refine k_mov rfl (k_nil (wpE_ret ?_))
      cases h
      exact ⟨by decide, rfl, fun _ => e_ret (ct := 0) (.cell f47 k117 rfl (BackP.agg (.cons (backC_inl fun _ => rfl) (.cons (backC_inl fun _ => rfl) (.cons (backC_inl fun _ => rfl) (.cons (backC_inl fun _ => rfl) (.cons (backC_inl fun _ => rfl) .nil)))))) (.tmp rfl (back_sc rfl) .nil)) ⟨[IV.str (([] : List UInt8)), IV.int .i64 ((0 : Int)), IV.int .i64 ((0 : Int)), IV.str (([] : List UInt8)), IV.str (([] : List UInt8))], rfl, (R_api_Hit.mk)⟩⟩
     ·have h := cfalse h g115
      refine wpE_skip ?_
      show wpE _ _ _ _ _ _ _ _
      refine wpE_seq (e_reg (k_fadrB (o := 4) rfl k110 (k_loadB rfl k110 rfl (k_bin rfl rfl rfl (k_mov rfl ?_)))))
      refine gL fun σ120 e121 => ?_
      have f123 : σ120 8 = .v (.c (.r (.ptr 8 g9 0))) := (congrFun e121 8).trans f47
      have f124 : σ120 15 = .v (.c (.r (.ptr 15 g85 0))) := (congrFun e121 15).trans rfl
      have f125 : σ120 16 = .v (.c (.r (.ptr 16 g102 0))) := (congrFun e121 16).trans rfl
      have f126 : σ120 73 = V (.bool ((y100 == (([] : List UInt8))))) := (congrFun e121 73).trans rfl
      refine k_mid (fun σ' hp' _ => hp109 = hp' ∧ σ' 82 = V (.bool (((y100 == (([] : List UInt8))) && ((y79.To == ((1 : Int))) || (y79.To == ((2 : Int))))))) ∧ Keep [] 74 82 σ120 σ') ?_ ?_
      ·rcases bt ((y100 == (([] : List UInt8)))) with g127 | g127
       ·refine k_yes (f126.trans (cgB g127)) ?_
        refine k_fadrB (o := 3) f124 k114 (k_yes (f126.trans (cgB g127)) (k_loadB rfl k114 rfl (k_yes (f126.trans (cgB g127)) (k_bin rfl rfl rfl (k_yes (f126.trans (cgB g127)) (k_mov rfl ?_))))))
        refine gL fun σ128 e129 => ?_
        have k130 : Keep [] 74 82 σ120 σ128 := by rw [e129]; repeat (first | exact (Keep.refl _ _ _ _) | refine Keep.upd ?_ rfl _)
        have f132 : σ128 15 = .v (.c (.r (.ptr 15 g85 0))) := (congrFun e129 15).trans f124
        have f134 : σ128 73 = V (.bool true) := (congrFun e129 73).trans (f126.trans (cgB g127))
        have f135 : σ128 77 = V (.bool ((y79.To == ((1 : Int))))) := (congrFun e129 77).trans rfl
        refine k_mid (fun σ' hp' _ => hp109 = hp' ∧ σ' 81 = V (.bool (((y79.To == ((1 : Int))) || (y79.To == ((2 : Int)))))) ∧ Keep [] 78 81 σ128 σ') ?_ ?_
        ·rcases bt ((y79.To == ((1 : Int)))) with g136 | g136
         ·refine k_no (f135.trans (cgB g136)) rfl ?_
          refine k_no (f135.trans (cgB g136)) rfl (k_no (f135.trans (cgB g136)) rfl (k_yes f134 (k_pickT (f135.trans (cgB g136)) rfl ?_)))
          exact ⟨rfl, cgB (by rw [g136]; rfl), (by repeat (first | exact (Keep.refl _ _ _ _) | refine Keep.upd ?_ rfl _))⟩
         ·refine k_yes (f135.trans (cgB g136)) ?_
          refine k_fadrB (o := 3) f132 k114 (k_yes (f135.trans (cgB g136)) (k_loadB rfl k114 rfl (k_yes (f135.trans (cgB g136)) (k_bin rfl rfl rfl (k_yes f134 (k_pickF (f135.trans (cgB g136)) rfl ?_))))))
          exact ⟨rfl, cgB (by rw [g136]; rfl), (by repeat (first | exact (Keep.refl _ _ _ _) | refine Keep.upd ?_ rfl _))⟩
        rintro σ137 _ _ ⟨rfl, f139, k138⟩
        have f142 : σ137 73 = V (.bool true) := (k138 73 rfl).trans f134
        have k143 : Keep [] 74 82 σ120 σ137 := Keep.trans k130 (Keep.sub k138 rfl)
        refine k_pickT f142 f139 ?_
        exact ⟨rfl, cgB (by rw [g127]; rfl), (by repeat (first | exact k143 | refine Keep.upd ?_ rfl _))⟩
       ·refine k_no (f126.trans (cgB g127)) rfl ?_
        refine k_no (f126.trans (cgB g127)) rfl (k_no (f126.trans (cgB g127)) rfl (k_no (f126.trans (cgB g127)) rfl (k_noS rfl (k_noS rfl (k_noS rfl (k_no (f126.trans (cgB g127)) rfl (k_pickF (f126.trans (cgB g127)) rfl ?_)))))))
        exact ⟨rfl, cgB (by rw [g127]; rfl), (by repeat (first | exact (Keep.refl _ _ _ _) | refine Keep.upd ?_ rfl _))⟩
      rintro σ144 _ _ ⟨rfl, f146, k145⟩
      have f147 : σ144 8 = .v (.c (.r (.ptr 8 g9 0))) := (k145 8 rfl).trans f123
      have f148 : σ144 16 = .v (.c (.r (.ptr 16 g102 0))) := (k145 16 rfl).trans f125
      refine k_nil ?_
      refine wpE_cond (p := ((y100 == (([] : List UInt8))) && ((y79.To == ((1 : Int))) || (y79.To == ((2 : Int)))))) f146 (fun g150 => ?_) (fun g150 => ?_)
      ·have h := ctrue h g150
       refine e_reg (k_build .nil rfl ?_)
       refine k_storeB f147 rfl k113 rfl fun hp151 k152 r153 => ?_
       refine k_mov rfl (k_nil (wpE_ret ?_))
       cases h
       exact ⟨by decide, rfl, fun _ => e_ret (ct := 0) (.cell f147 k152 rfl (BackP.agg (.cons (backC_inl fun _ => rfl) (.cons (backC_inl fun _ => rfl) (.cons (backC_inl fun _ => rfl) (.cons (backC_inl fun _ => rfl) (.cons (backC_inl fun _ => rfl) .nil)))))) (.tmp rfl (back_sc rfl) .nil)) ⟨[IV.str (([] : List UInt8)), IV.int .i64 ((0 : Int)), IV.int .i64 ((0 : Int)), IV.str (([] : List UInt8)), IV.str (([] : List UInt8))], rfl, (R_api_Hit.mk)⟩⟩
      ·have h := cfalse h g150
       refine wpE_skip ?_
       show wpE _ _ _ _ _ _ _ _
       refine e_reg (k_loadB f148 k110 rfl ?_)
       refine k_storeB f147 rfl k113 rfl fun hp155 k156 r157 => ?_
       refine k_mov rfl (k_nil (wpE_ret ?_))
       cases h
       exact ⟨by decide, rfl, fun _ => e_ret (ct := 0) (.cell f147 k156 rfl (BackP.agg (.cons (backC_inl fun _ => rfl) (.cons (backC_inl fun _ => rfl) (.cons (backC_inl fun _ => rfl) (.cons (backC_inl fun _ => rfl) (.cons (backC_inl fun _ => rfl) .nil)))))) (.tmp rfl (back_sc rfl) .nil)) ⟨[IV.str y52.Key, IV.int .i64 y75, IV.int .i64 y79.To, IV.str y79.Name, IV.str y100], rfl, (R_api_Hit.mk)⟩⟩
   ·have h := cfalse h g51
    refine wpE_exit ?_
    cases h
    exact ⟨by decide, rfl, ⟨[IV.str w35.Context, IV.int .i64 w35.Rule, IV.int .i64 w35.To, IV.str w35.Name, IV.str w35.Dialled], k38, (R_api_Hit.mk)⟩, (by repeat (first | exact k42 | refine Keep.upd ?_ rfl _)), r43⟩
  rcases e32 with y159 | r1
  rotate_left
  ·rintro _ _ _ _ ⟨rfl, hX⟩
   cases h
   exact hX 0
  rintro _ σ160 hp161 _ ⟨rfl, ⟨c164, k165, h166⟩, k162, r163⟩
  have f167 : σ160 8 = .v (.c (.r (.ptr 8 g9 0))) := (k162 8 rfl).trans f28
  obtain ⟨_, rfl⟩ := R_api_Hit.inv h166
  show wpE _ _ _ _ _ _ _ _
  refine e_reg (k_build .nil rfl ?_)
  refine k_storeB f167 rfl k165 rfl fun hp168 k169 r170 => ?_
  refine k_mov rfl (k_nil (wpE_ret ?_))
  cases h
  exact e_ret (ct := 0) (.cell f167 k169 rfl (BackP.agg (.cons (backC_inl fun _ => rfl) (.cons (backC_inl fun _ => rfl) (.cons (backC_inl fun _ => rfl) (.cons (backC_inl fun _ => rfl) (.cons (backC_inl fun _ => rfl) .nil)))))) (.tmp rfl (back_sc rfl) .nil)) ⟨[IV.str (([] : List UInt8)), IV.int .i64 ((0 : Int)), IV.int .i64 ((0 : Int)), IV.str (([] : List UInt8)), IV.str (([] : List UInt8))], rfl, (R_api_Hit.mk)⟩
theorem s5 {x0 : List Int} {vx0 : IV} {r : Bool} (hx0 : sv (Rep.int .i64) false vx0 x0) (h : F5_flashkeep2_WaitsAreTrue x0 = some r) : pc L 5 [.c (I vx0)] true (P5 r) := by
 refine fn_pure (fn := ir5) rfl (Nat.le_of_ble_eq_true rfl) fun lent hl => ?_
 unfold F5_flashkeep2_WaitsAreTrue at h
 refine e_reg (k_mov rfl (k_nil (e_reg (k_mov rfl (k_build (.cons rfl .nil) rfl ?_)))))
 refine k_box rfl rfl fun g1 hp2 k3 r4 => ?_
 refine k_mov rfl (k_nil (e_reg (k_mov rfl ?_)))
 obtain ⟨y5, e6, h⟩ := obind h
 refine k_meth (cells := [vx0, IV.int .i64 ((0 : Int))]) rfl k3 (.cons rfl rfl .nil) rfl (s25  (R_flashmake_Stream.retag (f := false) (c := [vx0, IV.int .i64 ((0 : Int))]) (R_flashmake_Stream.mk hx0)) e6) fun v7 c8 hp9 h10 k11 r12 => ?_
 obtain ⟨c13, rfl, q14, h15⟩ := h10
 obtain ⟨v16, rfl, q17⟩ := R_flashmake_Stream.inv h15
 obtain ⟨v18, v20, rfl, q19, q21⟩ := R_api_Plan.inv q14
 refine k_mov rfl ?_
 obtain ⟨y22, e23, h⟩ := obind h
 refine k_meth (cells := [v16, IV.int .i64 y5.1.at_]) rfl k11 .nil rfl (s26  (R_flashmake_Stream.retag (f := false) (c := [v16, IV.int .i64 y5.1.at_]) (R_flashmake_Stream.mk q17)) e23) fun v24 c25 hp26 h27 k28 r29 => ?_
 obtain ⟨rfl, h30⟩ := h27
 obtain ⟨v31, rfl, q32⟩ := R_flashmake_Stream.inv h30
 refine k_mov rfl (k_bslI (len := 2) (z := IV.int .i64 ((0 : Int))) (vs := [IV.int .i64 ((0 : Int)), IV.int .i64 ((32400000 : Int))]) (.cons rfl (.cons rfl .nil)) (by decide) rfl ?_)
 have o33 : sv (Rep.int .i64) true (.lit 0 [IV.int .i64 ((0 : Int)), IV.int .i64 ((32400000 : Int))] 2) ([(0 : Int), (32400000 : Int)] : List Int) := sv_lit true (⟨[IV.int .i64 ((0 : Int))], _, rfl, rfl, ⟨[IV.int .i64 ((32400000 : Int))], _, rfl, rfl, rfl⟩⟩) rfl
 obtain ⟨y34, e35, h⟩ := obind h
 refine k_meth (cells := [v31, IV.int .i64 y22.1.at_]) rfl k28 (.cons rfl rfl .nil) rfl (s27  (R_flashmake_Stream.retag (f := false) (c := [v31, IV.int .i64 y22.1.at_]) (R_flashmake_Stream.mk q32)) (sv_retag o33) e35) fun v36 c37 hp38 h39 k40 r41 => ?_
 obtain ⟨rfl, h42⟩ := h39
 obtain ⟨v43, rfl, q44⟩ := R_flashmake_Stream.inv h42
 refine k_alloc fun g45 hp46 k47 r48 => ?_
 have k49 := (r48 17 (by decide)).trans k40
 refine k_storeB rfl rfl k47 rfl fun hp50 k51 r52 => ?_
 have k53 := (r52 17 (by decide)).trans k49
 refine k_mov rfl (k_mov rfl (k_nil (e_reg (k_loadB rfl k51 rfl (k_mov rfl (k_mov rfl ?_))))))
 obtain ⟨y54, e55, h⟩ := obind h
 refine k_call (.cons rfl rfl (.cons rfl rfl (.cons rfl rfl (.cons rfl rfl .nil)))) (s28 (cx0 := [(IV.retag 1 v18), (IV.retag 1 v20)]) (R_api_Plan.mk (sv_retag q19) (sv_retag q21)) e55) (.inl rfl) ?_
 rintro _ rfl
 refine k_movT rfl (k_ext rfl rfl (k_ext rfl rfl (k_ext rfl rfl (k_mov rfl (k_mov rfl (k_mov rfl (k_nil ?_)))))))
 refine e_reg (k_loadB rfl k51 rfl (k_mov rfl (k_mov rfl ?_)))
 obtain ⟨y57, e58, h⟩ := obind h
 refine k_call (.cons rfl rfl (.cons rfl rfl (.cons rfl rfl (.cons rfl rfl .nil)))) (s29 (cx0 := [(IV.retag 1 v18), (IV.retag 1 v20)]) (R_api_Plan.mk (sv_retag q19) (sv_retag q21)) e58) (.inl rfl) ?_
 rintro _ ⟨c60, rfl, q61⟩
 obtain ⟨_, rfl⟩ := R_api_Hit.inv q61
 refine k_movT rfl (k_ext rfl rfl (k_ext rfl rfl ?_))
 refine k_alloc fun g62 hp63 k64 r65 => ?_
 have k66 := (r65 17 (by decide)).trans k53
 have k67 := (r65 4 (by decide)).trans k51
 refine k_storeB rfl rfl k64 rfl fun hp68 k69 r70 => ?_
 have k71 := (r70 17 (by decide)).trans k66
 have k72 := (r70 4 (by decide)).trans k67
 refine k_mov rfl (k_nil (wpE_seq (e_reg (k_mov rfl (k_bin rfl rfl rfl (k_mov rfl ?_))))))
 refine gL fun σ73 e74 => ?_
 have f75 : σ73 3 = .v (.c (.r (.ptr 17 g1 0))) := (congrFun e74 3).trans rfl
 have f76 : σ73 4 = .v (.c (.r (.ptr 4 g45 0))) := (congrFun e74 4).trans rfl
 have f77 : σ73 5 = V (.str y22.2) := (congrFun e74 5).trans rfl
 have f78 : σ73 6 = V (.int .i64 y34.2) := (congrFun e74 6).trans rfl
 have f79 : σ73 7 = V (.bool y54.1) := (congrFun e74 7).trans rfl
 have f80 : σ73 8 = V (.bool y54.2.1) := (congrFun e74 8).trans rfl
 have f81 : σ73 11 = V (.int .i64 y57.2) := (congrFun e74 11).trans rfl
 have f82 : σ73 42 = V (.bool ((y54.2.2 != ((0 : Int))))) := (congrFun e74 42).trans rfl
 refine k_mid (fun σ' hp' _ => hp68 = hp' ∧ σ' 47 = V (.bool (((y54.2.2 != ((0 : Int))) || !(y54.1 == (y57.2 != ((8 : Int))))))) ∧ Keep [] 43 47 σ73 σ') ?_ ?_
 ·rcases bt ((y54.2.2 != ((0 : Int)))) with g83 | g83
  ·refine k_no (f82.trans (cgB g83)) rfl ?_
   refine k_no (f82.trans (cgB g83)) rfl (k_no (f82.trans (cgB g83)) rfl (k_no (f82.trans (cgB g83)) rfl (k_pickT (f82.trans (cgB g83)) rfl ?_)))
   exact ⟨rfl, cgB (by rw [g83]; rfl), (by repeat (first | exact (Keep.refl _ _ _ _) | refine Keep.upd ?_ rfl _))⟩
  ·refine k_yes (f82.trans (cgB g83)) ?_
   refine k_mov f79 (k_yes (f82.trans (cgB g83)) (k_mov f81 (k_yes (f82.trans (cgB g83)) (k_bin rfl rfl rfl (k_yes (f82.trans (cgB g83)) (k_eqB rfl rfl (k_pickF (f82.trans (cgB g83)) rfl ?_)))))))
   exact ⟨rfl, cgB (by rw [g83]; rfl), (by repeat (first | exact (Keep.refl _ _ _ _) | refine Keep.upd ?_ rfl _))⟩
 rintro σ84 _ _ ⟨rfl, f86, k85⟩
 have f87 : σ84 3 = .v (.c (.r (.ptr 17 g1 0))) := (k85 3 rfl).trans f75
 have f88 : σ84 4 = .v (.c (.r (.ptr 4 g45 0))) := (k85 4 rfl).trans f76
 have f89 : σ84 5 = V (.str y22.2) := (k85 5 rfl).trans f77
 have f90 : σ84 6 = V (.int .i64 y34.2) := (k85 6 rfl).trans f78
 have f91 : σ84 8 = V (.bool y54.2.1) := (k85 8 rfl).trans f80
 refine k_nil ?_
 refine wpE_cond (p := ((y54.2.2 != ((0 : Int))) || !(y54.1 == (y57.2 != ((8 : Int)))))) f86 (fun g92 => ?_) (fun g92 => ?_)
 ·have h := ctrue h g92
  refine e_reg (k_mov rfl (k_nil (wpE_ret ?_)))
  cases h
  exact e_ret (ct := 0) (.tmp rfl (back_sc rfl) .nil) rfl
 ·have h := cfalse h g92
  refine wpE_skip ?_
  show wpE _ _ _ _ _ _ _ _
  refine wpE_seq (e_reg (k_mov rfl (k_nil (wpE_block ?_))))
  refine gE fun σ93 e94 => ?_
  have f95 : σ93 3 = .v (.c (.r (.ptr 17 g1 0))) := (congrFun e94 3).trans f87
  have f96 : σ93 4 = .v (.c (.r (.ptr 4 g45 0))) := (congrFun e94 4).trans f88
  have f97 : σ93 5 = V (.str y22.2) := (congrFun e94 5).trans f89
  have f98 : σ93 6 = V (.int .i64 y34.2) := (congrFun e94 6).trans f90
  have f99 : σ93 8 = V (.bool y54.2.1) := (congrFun e94 8).trans f91
  have f100 : σ93 48 = V (.int .i64 ((0 : Int))) := (congrFun e94 48).trans rfl
  obtain ⟨e101, h102, h⟩ := lret_e h
  refine wpE_mono (e_loop h102 (I := fun s σ' hp' _ => σ' 48 = V (.int .i64 s.1) ∧ (∃ c, hp'.get 17 = some (.cells g1 (c.map I)) ∧ R_flashmake_Stream.rp false c s.2) ∧ Keep [2] 12 67 σ93 σ' ∧ Fr [13, 17] hp68 hp') (X := fun e ex σ' hp' _ => match e with | .inl e => ex = .exit 0 ∧ Keep [2] 12 67 σ93 σ' ∧ Fr [13, 17] hp68 hp' | .inr r => ex = .ret ∧ ∀ ct, atEnd 69 [Res.tmp 2] (fin lent (P5 r)) .ret σ' hp' ct) ⟨f100, ⟨[v43, IV.int .i64 y34.1.at_], k71, (R_flashmake_Stream.mk q44)⟩, Keep.refl _ _ _ _, Fr.refl _ _⟩ ?_) ?_
  ·clear h
   rintro ⟨w103, w104⟩ o σ109 hp110 _ h ⟨f105, ⟨c106, k107, h108⟩, k111, r112⟩
   have h : F5_flashkeep2_WaitsAreTrue_l0 y5 y22 y34 y54 w103 w104 = some o := h; unfold F5_flashkeep2_WaitsAreTrue_l0 at h
   have f113 : σ109 3 = .v (.c (.r (.ptr 17 g1 0))) := (k111 3 rfl).trans f95
   have f114 : σ109 4 = .v (.c (.r (.ptr 4 g45 0))) := (k111 4 rfl).trans f96
   have f115 : σ109 5 = V (.str y22.2) := (k111 5 rfl).trans f97
   have f116 : σ109 6 = V (.int .i64 y34.2) := (k111 6 rfl).trans f98
   have f117 : σ109 8 = V (.bool y54.2.1) := (k111 8 rfl).trans f99
   have k118 := (r112 4 (by decide)).trans k72
   obtain ⟨v119, rfl, q120⟩ := R_flashmake_Stream.inv h108
   show wpE _ _ _ _ _ _ _ _
   refine e_reg (k_bin f105 rfl rfl (k_nil (wpE_seq ?_)))
   refine wpE_cond (p := (decide (w103 < ((4 : Int))))) rfl (fun g121 => ?_) (fun g121 => ?_)
   ·have h := ctrue h g121
    refine wpE_skip ?_
    show wpE _ _ _ _ _ _ _ _
    refine wpE_seq (wpE_block (e_reg (k_mov f115 (k_mov f113 ?_))))
    obtain ⟨y122, e123, h⟩ := obind h
    refine k_meth (cells := [v119, IV.int .i64 w104.at_]) rfl k107 .nil rfl (s26  (R_flashmake_Stream.retag (f := false) (c := [v119, IV.int .i64 w104.at_]) (R_flashmake_Stream.mk q120)) e123) fun v124 c125 hp126 h127 k128 r129 => ?_
    obtain ⟨rfl, h130⟩ := h127
    obtain ⟨v131, rfl, q132⟩ := R_flashmake_Stream.inv h130
    have r133 : Fr [13, 17] hp68 hp126 := Fr.ext r112 r129 rfl
    have k134 := (r129 4 (by decide)).trans k118
    obtain ⟨y135, e136, h⟩ := obind h
    refine k_sadd rfl rfl e136 (k_mov rfl (k_nil (e_reg (k_loadB f114 k134 rfl (k_mov rfl (k_mov f116 ?_))))))
    obtain ⟨y137, e138, h⟩ := obind h
    refine k_call (.cons rfl rfl (.cons rfl rfl (.cons rfl rfl (.cons rfl rfl .nil)))) (s29 (cx0 := [(IV.retag 1 v18), (IV.retag 1 v20)]) (R_api_Plan.mk (sv_retag q19) (sv_retag q21)) e138) (.inl rfl) ?_
    rintro _ ⟨c140, rfl, q141⟩
    obtain ⟨_, rfl⟩ := R_api_Hit.inv q141
    refine k_movT rfl (k_ext rfl rfl (k_ext rfl rfl ?_))
    refine k_alloc fun g142 hp143 k144 r145 => ?_
    have r146 : Fr [13, 17] hp68 hp143 := Fr.ext r133 r145 rfl
    have k147 := (r145 17 (by decide)).trans k128
    refine k_storeB rfl rfl k144 rfl fun hp149 k150 r151 => ?_
    have r152 : Fr [13, 17] hp68 hp149 := Fr.ext r146 r151 rfl
    have k153 := (r151 17 (by decide)).trans k147
    refine k_mov rfl (k_nil (e_reg (k_mov rfl (k_bin rfl rfl rfl (k_mov rfl ?_)))))
    refine gL fun σ155 e156 => ?_
    have k157 : Keep [2] 12 67 σ93 σ155 := by rw [e156]; repeat (first | exact k111 | refine Keep.upd ?_ rfl _)
    have f162 : σ155 8 = V (.bool y54.2.1) := (congrFun e156 8).trans f117
    have f163 : σ155 48 = V (.int .i64 w103) := (congrFun e156 48).trans f105
    have f164 : σ155 63 = V (.bool ((y137.2 != ((8 : Int))))) := (congrFun e156 63).trans rfl
    refine k_mid (fun σ' hp' _ => hp149 = hp' ∧ σ' 66 = V (.bool (((y137.2 != ((8 : Int))) && (!y54.2.1)))) ∧ Keep [] 64 66 σ155 σ') ?_ ?_
    ·rcases bt ((y137.2 != ((8 : Int)))) with g165 | g165
     ·refine k_yes (f164.trans (cgB g165)) ?_
      refine k_mov f162 (k_yes (f164.trans (cgB g165)) (k_not rfl (k_pickT (f164.trans (cgB g165)) rfl ?_)))
      exact ⟨rfl, cgB (by rw [g165]; rfl), (by repeat (first | exact (Keep.refl _ _ _ _) | refine Keep.upd ?_ rfl _))⟩
     ·refine k_no (f164.trans (cgB g165)) rfl ?_
      refine k_no (f164.trans (cgB g165)) rfl (k_pickF (f164.trans (cgB g165)) rfl ?_)
      exact ⟨rfl, cgB (by rw [g165]; rfl), (by repeat (first | exact (Keep.refl _ _ _ _) | refine Keep.upd ?_ rfl _))⟩
    rintro σ166 _ _ ⟨rfl, f168, k167⟩
    have f174 : σ166 48 = V (.int .i64 w103) := (k167 48 rfl).trans f163
    have k175 : Keep [2] 12 67 σ93 σ166 := Keep.trans k157 (Keep.sub k167 rfl)
    refine k_nil ?_
    refine wpE_cond (p := ((y137.2 != ((8 : Int))) && (!y54.2.1))) f168 (fun g176 => ?_) (fun g176 => ?_)
    ·have h := ctrue h g176
     refine e_reg (k_mov rfl (k_nil (wpE_ret ?_)))
     cases h
     exact ⟨by decide, rfl, fun _ => e_ret (ct := 0) (.tmp rfl (back_sc rfl) .nil) rfl⟩
    ·have h := cfalse h g176
     refine wpE_skip ?_
     show wpE _ _ _ _ _ _ _ _
     refine e_last (k_bin f174 rfl rfl (k_mov rfl (k_nil ?_)))
     cases h
     exact ⟨rfl, rfl, ⟨[v131, IV.int .i64 y122.1.at_], k153, (R_flashmake_Stream.mk q132)⟩, (by repeat (first | exact k175 | refine Keep.upd ?_ rfl _)), r152⟩
   ·have h := cfalse h g121
    refine wpE_exit ?_
    cases h
    exact ⟨by decide, rfl, (by repeat (first | exact k111 | refine Keep.upd ?_ rfl _)), r112⟩
  rcases e101 with _ | r1
  rotate_left
  ·rintro _ _ _ _ ⟨rfl, hX⟩
   cases h
   exact hX 0
  rintro _ σ177 hp178 _ ⟨rfl, k179, r180⟩
  show wpE _ _ _ _ _ _ _ _
  refine e_reg ?_
  obtain ⟨y181, e182, h⟩ := obind h
  refine k_call .nil (s19  e182) (.inl rfl) ?_
  rintro _ rfl
  refine k_mov rfl (k_nil (wpE_ret ?_))
  cases h
  exact e_ret (ct := 0) (.tmp rfl (back_sc rfl) .nil) rfl
end Go.Proofs.YtagbgmkocjfanaaGreatDoor
