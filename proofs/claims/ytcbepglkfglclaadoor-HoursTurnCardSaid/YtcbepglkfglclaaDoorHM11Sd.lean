/-
  The small code of functions comes to the Lean functions. Printed by a program of mine.
-/
import Derived.Test.YtcbepglkfglclaaDoorHM11Sc
namespace Go.Proofs.YtcbepglkfglclaaDoor
open Go Go.Abs
set_option maxRecDepth 100000
set_option maxHeartbeats 1000000
/-- hookflash/dialplan.CheckHours -/
theorem s87 {x0 : List T_api_Hours} {vx0 : IV} {r : Int} (hx0 : sv R_api_Hours false vx0 x0) (h : F87_dialplan_CheckHours x0 = some r) : pc L 87 [.c (I vx0)] true (P87 r) := by
  refine fn_pure (fn := ir87) rfl (Nat.le_of_ble_eq_true rfl) fun lent hl => ?_
  unfold F87_dialplan_CheckHours at h
  refine e_reg ?_
  refine k_mov rfl ?_
  refine k_nil ?_
  refine wpE_seq ?_
  refine e_reg ?_
  refine k_mov rfl ?_
  refine k_len rfl (sv.any [] _ hx0) ?_
  refine k_bin rfl rfl rfl ?_
  refine k_nil ?_
  refine wpE_cond (p := (decide (((List.length x0 : Int)) > ((50 : Int))))) rfl (fun g1 => ?_) (fun g1 => ?_)
  · have h := ctrue h g1
    refine e_reg ?_
    refine k_mov rfl ?_
    refine k_nil ?_
    refine wpE_ret ?_
    obtain rfl := Option.some.inj h
    exact e_ret (ct := 0) (.tmp rfl (back_sc rfl) .nil) rfl
  · have h := cfalse h g1
    refine wpE_skip ?_
    show wpE _ _ _ _ _ _ _ _
    refine wpE_seq ?_
    refine e_reg ?_
    refine k_mov rfl ?_
    refine k_len rfl (sv.any [] _ hx0) ?_
    refine k_mov rfl ?_
    refine k_nil ?_
    refine wpE_block ?_
    refine gE fun σ2 e3 => ?_
    have f4 : σ2 0 = .v (.c ((I vx0))) := (congrFun e3 0).trans rfl
    have f5 : σ2 9 = .v (.c ((I vx0))) := (congrFun e3 9).trans rfl
    have f6 : σ2 10 = V (.int .i64 ((List.length x0 : Int))) := (congrFun e3 10).trans rfl
    have f7 : σ2 11 = V (.int .i64 ((0 : Int))) := (congrFun e3 11).trans rfl
    obtain ⟨e8, h9, h⟩ := lret_e h
    refine wpE_mono (e_loop h9 (I := fun s σ' hp' _ => σ' 11 = V (.int .i64 s) ∧ Keep [2, 3, 4, 5] 11 45 σ2 σ' ∧ Fr [4] [] hp') (X := fun e ex σ' hp' _ => match e with | .inl e => ex = .exit 0 ∧ Keep [2, 3, 4, 5] 11 45 σ2 σ' ∧ Fr [4] [] hp' | .inr r => ex = .ret ∧ ∀ ct, atEnd 46 [Res.tmp 2] (fin lent (P87 r)) .ret σ' hp' ct) ⟨f7, Keep.refl _ _ _ _, Fr.refl _ _⟩ ?_) ?_
    · clear h
      rintro w10 o σ12 hp13 _ h ⟨f11, k14, r15⟩
      have h : F87_dialplan_CheckHours_l0 x0 w10 = some o := h; unfold F87_dialplan_CheckHours_l0 at h
      have f16 : σ12 0 = .v (.c ((I vx0))) := (k14 0 rfl).trans f4
      have f17 : σ12 9 = .v (.c ((I vx0))) := (k14 9 rfl).trans f5
      have f18 : σ12 10 = V (.int .i64 ((List.length x0 : Int))) := (k14 10 rfl).trans f6
      show wpE _ _ _ _ _ _ _ _
      refine e_reg ?_
      refine k_bin f11 f18 rfl ?_
      refine k_nil ?_
      refine wpE_seq ?_
      refine wpE_cond (p := (decide (w10 < ((List.length x0 : Int))))) rfl (fun g19 => ?_) (fun g19 => ?_)
      · have h := ctrue h g19
        refine wpE_skip ?_
        show wpE _ _ _ _ _ _ _ _
        refine wpE_seq ?_
        refine wpE_block ?_
        refine e_reg ?_
        refine k_mov f11 ?_
        obtain ⟨y20, e21, h⟩ := obind h
        refine k_iadrL f17 (sv.any [] _ hx0) f11 e21 rfl fun p22 c23 q24 h25 => ?_
        obtain ⟨v26, v28, rfl, q27, q29⟩ := R_api_Hours.inv h25
        refine k_loadL rfl q24 rfl ?_
        refine k_alloc fun g30 hp31 k32 r33 => ?_
        have r34 : Fr [4] [] hp31 := Fr.ext r15 r33 rfl
        refine k_mov rfl ?_
        refine k_storeB rfl rfl k32 rfl fun hp35 k36 r37 => ?_
        have r38 : Fr [4] [] hp35 := Fr.ext r34 r37 rfl
        refine k_nil ?_
        refine wpE_seq ?_
        refine wpE_block ?_
        refine e_reg ?_
        refine k_fadrB (o := 0) rfl k36 ?_
        refine k_loadB rfl k36 rfl ?_
        obtain ⟨y39, e40, h⟩ := obind h
        refine k_call (.cons rfl rfl .nil) (s110  e40) (.inl rfl) ?_
        rintro _ rfl
        refine k_not rfl ?_
        refine k_mov rfl ?_
        refine k_nil ?_
        refine wpE_cond (p := (!y39)) rfl (fun g42 => ?_) (fun g42 => ?_)
        · have h := ctrue h g42
          refine e_reg ?_
          refine k_mov rfl ?_
          refine k_nil ?_
          refine wpE_ret ?_
          obtain rfl := Option.some.inj h
          exact ⟨by decide, rfl, fun _ => e_ret (ct := 0) (.tmp rfl (back_sc rfl) .nil) rfl⟩
        · have h := cfalse h g42
          refine e_regD (by kernel_rfl) (by kernel_rfl) ?_
          refine k_mov rfl ?_
          refine k_bin rfl rfl rfl ?_
          refine k_mov rfl ?_
          refine gL fun σ43 e44 => ?_
          have k45 : Keep [2, 3, 4, 5] 11 45 σ2 σ43 := by rw [e44]; repeat (first | exact k14 | refine Keep.upd ?_ rfl _)
          have f46 : σ43 0 = .v (.c ((I vx0))) := (congrFun e44 0).trans f16
          have f47 : σ43 9 = .v (.c ((I vx0))) := (congrFun e44 9).trans f17
          have f48 : σ43 10 = V (.int .i64 ((List.length x0 : Int))) := (congrFun e44 10).trans f18
          have f49 : σ43 11 = V (.int .i64 w10) := (congrFun e44 11).trans f11
          have f50 : σ43 4 = .v (.c (.r (.ptr 4 g30 0))) := (congrFun e44 4).trans rfl
          have f51 : σ43 3 = V (.int .i64 w10) := (congrFun e44 3).trans rfl
          have f52 : σ43 24 = V (.bool ((decide (w10 > ((0 : Int)))))) := (congrFun e44 24).trans rfl
          obtain ⟨y66, e67, h⟩ := obind h
          refine k_mid (fun σ' hp' _ => hp35 = hp' ∧ σ' 34 = V (.bool y66) ∧ Keep [] 25 34 σ43 σ') ?_ ?_
          · rcases bt ((decide (w10 > ((0 : Int))))) with g53 | g53
            · have h := ctrue e67 g53
              refine k_yes (f52.trans (cgB g53)) ?_
              refine k_fadrB (o := 0) f50 k36 ?_
              refine k_yes (f52.trans (cgB g53)) ?_
              refine k_loadB rfl k36 rfl ?_
              refine k_yes (f52.trans (cgB g53)) ?_
              refine k_mov f46 ?_
              refine k_yes (f52.trans (cgB g53)) ?_
              refine k_mov f51 ?_
              refine k_yes (f52.trans (cgB g53)) ?_
              refine k_bin rfl rfl rfl ?_
              refine k_yes (f52.trans (cgB g53)) ?_
              obtain ⟨y54, e55, h⟩ := obind h
              refine k_iadrL rfl (sv.any [] _ hx0) rfl e55 rfl fun p56 c57 q58 h59 => ?_
              obtain ⟨v60, v62, rfl, q61, q63⟩ := R_api_Hours.inv h59
              refine k_yes (f52.trans (cgB g53)) ?_
              refine k_fadrL (o := 0) rfl q58 (Nat.le_of_ble_eq_true rfl) fun p64 q65 => ?_
              refine k_yes (f52.trans (cgB g53)) ?_
              refine k_loadL rfl q65 rfl ?_
              refine k_yes (f52.trans (cgB g53)) ?_
              refine k_bin rfl rfl rfl ?_
              refine k_pickT (f52.trans (cgB g53)) rfl ?_
              exact ⟨rfl, cgB (Option.some.inj h), (by repeat (first | exact (Keep.refl _ _ _ _) | refine Keep.upd ?_ rfl _))⟩
            · have h := cfalse e67 g53
              refine k_no (f52.trans (cgB g53)) rfl ?_
              refine k_no (f52.trans (cgB g53)) rfl ?_
              refine k_no (f52.trans (cgB g53)) rfl ?_
              refine k_no (f52.trans (cgB g53)) rfl ?_
              refine k_no (f52.trans (cgB g53)) rfl ?_
              refine k_no (f52.trans (cgB g53)) rfl ?_
              refine k_no (f52.trans (cgB g53)) rfl ?_
              refine k_no (f52.trans (cgB g53)) rfl ?_
              refine k_no (f52.trans (cgB g53)) rfl ?_
              refine k_pickF (f52.trans (cgB g53)) rfl ?_
              exact ⟨rfl, cgB (Option.some.inj h), (by repeat (first | exact (Keep.refl _ _ _ _) | refine Keep.upd ?_ rfl _))⟩
          rintro σ68 _ _ ⟨rfl, f70, k69⟩
          have f71 : σ68 0 = .v (.c ((I vx0))) := (k69 0 rfl).trans f46
          have f72 : σ68 9 = .v (.c ((I vx0))) := (k69 9 rfl).trans f47
          have f73 : σ68 10 = V (.int .i64 ((List.length x0 : Int))) := (k69 10 rfl).trans f48
          have f74 : σ68 11 = V (.int .i64 w10) := (k69 11 rfl).trans f49
          have f75 : σ68 4 = .v (.c (.r (.ptr 4 g30 0))) := (k69 4 rfl).trans f50
          have k76 : Keep [2, 3, 4, 5] 11 45 σ2 σ68 := Keep.trans k45 (Keep.sub k69 rfl)
          refine k_mov f70 ?_
          refine k_nil ?_
          refine wpE_cond (p := y66) rfl (fun g77 => ?_) (fun g77 => ?_)
          · have h := ctrue h g77
            refine e_reg ?_
            refine k_mov rfl ?_
            refine k_nil ?_
            refine wpE_ret ?_
            obtain rfl := Option.some.inj h
            exact ⟨by decide, rfl, fun _ => e_ret (ct := 0) (.tmp rfl (back_sc rfl) .nil) rfl⟩
          · have h := cfalse h g77
            refine e_reg ?_
            refine k_fadrB (o := 1) f75 k36 ?_
            refine k_loadB rfl k36 rfl ?_
            obtain ⟨y78, e79, h⟩ := obind h
            refine k_call (.cons rfl rfl (.cons rfl rfl (.cons rfl rfl .nil))) (s134  e79) (.inl rfl) ?_
            rintro _ rfl
            refine k_not rfl ?_
            refine k_mov rfl ?_
            refine k_nil ?_
            refine wpE_cond (p := (!y78)) rfl (fun g81 => ?_) (fun g81 => ?_)
            · have h := ctrue h g81
              refine e_reg ?_
              refine k_mov rfl ?_
              refine k_nil ?_
              refine wpE_ret ?_
              obtain rfl := Option.some.inj h
              exact ⟨by decide, rfl, fun _ => e_ret (ct := 0) (.tmp rfl (back_sc rfl) .nil) rfl⟩
            · have h := cfalse h g81
              refine wpE_skip ?_
              show wpE _ _ _ _ _ _ _ _
              refine e_reg ?_
              refine k_loadB f75 k36 rfl ?_
              obtain ⟨y82, e83, h⟩ := obind h
              refine k_call (.cons rfl rfl .nil) (s135 (cx0 := [IV.str y20.Key, IV.int .i64 y20.Zone, (IV.retag 1 v26), (IV.retag 1 v28)]) (R_api_Hours.mk (sv_retag q27) (sv_retag q29)) e83) (.inl rfl) ?_
              rintro _ rfl
              refine k_mov rfl ?_
              refine k_nil ?_
              refine e_reg ?_
              refine k_mov rfl ?_
              refine k_bin rfl rfl rfl ?_
              refine k_nil ?_
              refine wpE_cond (p := (y82 != ((0 : Int)))) rfl (fun g85 => ?_) (fun g85 => ?_)
              · have h := ctrue h g85
                refine e_reg ?_
                refine k_mov rfl ?_
                refine k_mov rfl ?_
                refine k_nil ?_
                refine wpE_ret ?_
                obtain rfl := Option.some.inj h
                exact ⟨by decide, rfl, fun _ => e_ret (ct := 0) (.tmp rfl (back_sc rfl) .nil) rfl⟩
              · have h := cfalse h g85
                refine wpE_skip ?_
                show wpE _ _ _ _ _ _ _ _
                refine e_last ?_
                refine k_bin f74 rfl rfl ?_
                refine k_mov rfl ?_
                refine k_nil ?_
                obtain rfl := Option.some.inj h
                exact ⟨rfl, rfl, (by repeat (first | exact k76 | refine Keep.upd ?_ rfl _)), r38⟩
      · have h := cfalse h g19
        refine wpE_exit ?_
        obtain rfl := Option.some.inj h
        exact ⟨by decide, rfl, (by repeat (first | exact k14 | refine Keep.upd ?_ rfl _)), r15⟩
    rcases e8 with _ | r1
    rotate_left
    · rintro _ _ _ _ ⟨rfl, hX⟩
      obtain rfl := Option.some.inj h
      exact hX 0
    rintro _ σ86 hp87 _ ⟨rfl, k88, r89⟩
    show wpE _ _ _ _ _ _ _ _
    refine e_reg ?_
    refine k_mov rfl ?_
    refine k_nil ?_
    refine wpE_ret ?_
    obtain rfl := Option.some.inj h
    exact e_ret (ct := 0) (.tmp rfl (back_sc rfl) .nil) rfl
/-- hookflash/dialplan.CheckWindow -/
theorem s88 {x0 : T_api_Window} {cx0 : List IV} {r : Int} (hx0 : R_api_Window.rp false cx0 x0) (h : F88_dialplan_CheckWindow x0 = some r) : pc L 88 [.agg (cx0.map I)] true (P88 r) := by
  refine fn_pure (fn := ir88) rfl (Nat.le_of_ble_eq_true rfl) fun lent hl => ?_
  unfold F88_dialplan_CheckWindow at h
  obtain ⟨_, rfl⟩ := R_api_Window.inv hx0
  refine e_reg ?_
  refine k_box rfl rfl fun g1 hp2 k3 r4 => ?_
  refine k_mov rfl ?_
  refine k_nil ?_
  refine wpE_seq ?_
  refine e_reg ?_
  refine k_fadrB (o := 0) rfl k3 ?_
  refine k_loadB rfl k3 rfl ?_
  refine k_bin rfl rfl rfl ?_
  refine k_mov rfl ?_
  refine gL fun σ5 e6 => ?_
  have f7 : σ5 1 = .v (.c (.r (.ptr 1 g1 0))) := (congrFun e6 1).trans rfl
  have f8 : σ5 6 = V (.bool ((decide (x0.From < ((0 : Int)))))) := (congrFun e6 6).trans rfl
  refine k_mid (fun σ' hp' _ => hp2 = hp' ∧ σ' 12 = V (.bool (((decide (x0.From < ((0 : Int)))) || (decide (x0.From > x0.To))))) ∧ Keep [] 7 12 σ5 σ') ?_ ?_
  · rcases bt ((decide (x0.From < ((0 : Int))))) with g9 | g9
    · refine k_no (f8.trans (cgB g9)) rfl ?_
      refine k_no (f8.trans (cgB g9)) rfl ?_
      refine k_no (f8.trans (cgB g9)) rfl ?_
      refine k_no (f8.trans (cgB g9)) rfl ?_
      refine k_no (f8.trans (cgB g9)) rfl ?_
      refine k_pickT (f8.trans (cgB g9)) rfl ?_
      exact ⟨rfl, cgB (by rw [g9]; rfl), (by repeat (first | exact (Keep.refl _ _ _ _) | refine Keep.upd ?_ rfl _))⟩
    · refine k_yes (f8.trans (cgB g9)) ?_
      refine k_fadrB (o := 0) f7 k3 ?_
      refine k_yes (f8.trans (cgB g9)) ?_
      refine k_loadB rfl k3 rfl ?_
      refine k_yes (f8.trans (cgB g9)) ?_
      refine k_fadrB (o := 1) f7 k3 ?_
      refine k_yes (f8.trans (cgB g9)) ?_
      refine k_loadB rfl k3 rfl ?_
      refine k_yes (f8.trans (cgB g9)) ?_
      refine k_bin rfl rfl rfl ?_
      refine k_pickF (f8.trans (cgB g9)) rfl ?_
      exact ⟨rfl, cgB (by rw [g9]; rfl), (by repeat (first | exact (Keep.refl _ _ _ _) | refine Keep.upd ?_ rfl _))⟩
  rintro σ10 _ _ ⟨rfl, f12, k11⟩
  have f13 : σ10 1 = .v (.c (.r (.ptr 1 g1 0))) := (k11 1 rfl).trans f7
  refine k_mov f12 ?_
  refine gL fun σ14 e15 => ?_
  have f16 : σ14 1 = .v (.c (.r (.ptr 1 g1 0))) := (congrFun e15 1).trans f13
  have f17 : σ14 13 = V (.bool (((decide (x0.From < ((0 : Int)))) || (decide (x0.From > x0.To))))) := (congrFun e15 13).trans rfl
  refine k_mid (fun σ' hp' _ => hp2 = hp' ∧ σ' 17 = V (.bool ((((decide (x0.From < ((0 : Int)))) || (decide (x0.From > x0.To))) || (decide (x0.To > ((345686400000 : Int))))))) ∧ Keep [] 14 17 σ14 σ') ?_ ?_
  · rcases bt (((decide (x0.From < ((0 : Int)))) || (decide (x0.From > x0.To)))) with g18 | g18
    · refine k_no (f17.trans (cgB g18)) rfl ?_
      refine k_no (f17.trans (cgB g18)) rfl ?_
      refine k_no (f17.trans (cgB g18)) rfl ?_
      refine k_pickT (f17.trans (cgB g18)) rfl ?_
      exact ⟨rfl, cgB (by rw [g18]; rfl), (by repeat (first | exact (Keep.refl _ _ _ _) | refine Keep.upd ?_ rfl _))⟩
    · refine k_yes (f17.trans (cgB g18)) ?_
      refine k_fadrB (o := 1) f16 k3 ?_
      refine k_yes (f17.trans (cgB g18)) ?_
      refine k_loadB rfl k3 rfl ?_
      refine k_yes (f17.trans (cgB g18)) ?_
      refine k_bin rfl rfl rfl ?_
      refine k_pickF (f17.trans (cgB g18)) rfl ?_
      exact ⟨rfl, cgB (by rw [g18]; rfl), (by repeat (first | exact (Keep.refl _ _ _ _) | refine Keep.upd ?_ rfl _))⟩
  rintro σ19 _ _ ⟨rfl, f21, k20⟩
  have f22 : σ19 1 = .v (.c (.r (.ptr 1 g1 0))) := (k20 1 rfl).trans f16
  refine k_nil ?_
  refine wpE_cond (p := (((decide (x0.From < ((0 : Int)))) || (decide (x0.From > x0.To))) || (decide (x0.To > ((345686400000 : Int)))))) f21 (fun g23 => ?_) (fun g23 => ?_)
  · have h := ctrue h g23
    refine e_reg ?_
    refine k_mov rfl ?_
    refine k_nil ?_
    refine wpE_ret ?_
    obtain rfl := Option.some.inj h
    exact e_ret (ct := 0) (.tmp rfl (back_sc rfl) .nil) rfl
  · have h := cfalse h g23
    refine wpE_skip ?_
    show wpE _ _ _ _ _ _ _ _
    refine wpE_seq ?_
    refine e_reg ?_
    refine k_fadrB (o := 1) f22 k3 ?_
    refine k_loadB rfl k3 rfl ?_
    refine k_fadrB (o := 0) f22 k3 ?_
    refine k_loadB rfl k3 rfl ?_
    refine k_bin rfl rfl rfl ?_
    refine k_bin rfl rfl rfl ?_
    refine k_nil ?_
    refine wpE_cond (p := (decide (((IntKind.wrap .i64 (x0.To - x0.From))) > ((34560000000 : Int))))) rfl (fun g24 => ?_) (fun g24 => ?_)
    · have h := ctrue h g24
      refine e_reg ?_
      refine k_mov rfl ?_
      refine k_nil ?_
      refine wpE_ret ?_
      obtain rfl := Option.some.inj h
      exact e_ret (ct := 0) (.tmp rfl (back_sc rfl) .nil) rfl
    · have h := cfalse h g24
      refine wpE_skip ?_
      show wpE _ _ _ _ _ _ _ _
      refine e_reg ?_
      refine k_mov rfl ?_
      refine k_nil ?_
      refine wpE_ret ?_
      obtain rfl := Option.some.inj h
      exact e_ret (ct := 0) (.tmp rfl (back_sc rfl) .nil) rfl
/-- hookflash/dialplan.floor -/
theorem s136 {x0 : Int} {x1 : Int} {r : Int}  (h : F136_dialplan_floor x0 x1 = some r) : pc L 136 [.c (I (.int .i64 x0)), .c (I (.int .i64 x1))] true (P136 r) := by
  refine fn_pure (fn := ir136) rfl (Nat.le_of_ble_eq_true rfl) fun lent hl => ?_
  unfold F136_dialplan_floor at h
  refine e_reg ?_
  refine k_mov rfl ?_
  refine k_nil ?_
  refine e_reg ?_
  refine k_mov rfl ?_
  refine k_mov rfl ?_
  obtain ⟨y1, e2, h⟩ := obind h
  refine k_quo rfl rfl e2 ?_
  refine k_mov rfl ?_
  refine k_nil ?_
  refine wpE_seq ?_
  refine e_reg ?_
  refine k_mov rfl ?_
  refine k_mov rfl ?_
  obtain ⟨y3, e4, h⟩ := obind h
  refine k_rem rfl rfl e4 ?_
  refine k_bin rfl rfl rfl ?_
  refine k_nil ?_
  refine gE fun σ5 e6 => ?_
  have f7 : σ5 5 = V (.int .i64 y1) := (congrFun e6 5).trans rfl
  have f8 : σ5 12 = V (.bool ((decide (y3 < ((0 : Int)))))) := (congrFun e6 12).trans rfl
  obtain ⟨y11, h10, h⟩ := obind h
  refine wpE_mono (Q := fun ex σ' hp' _ => ex = .normal ∧ σ' 5 = V (.int .i64 y11) ∧ Keep [] 5 14 σ5 σ' ∧ [] = hp') ?_ ?_
  · clear h; have h := h10
    refine wpE_cond (p := (decide (y3 < ((0 : Int))))) f8 (fun g12 => ?_) (fun g12 => ?_)
    · have h := ctrue h g12
      refine e_last ?_
      refine k_mov f7 ?_
      refine k_bin rfl rfl rfl ?_
      refine k_mov rfl ?_
      obtain ⟨u13, e14, h⟩ := bnd_e h
      refine k_nil ?_
      have q0 := Option.some.inj h
      obtain rfl := q0
      exact ⟨rfl, (cgI e14), (by repeat (first | exact (Keep.refl _ _ _ _) | refine Keep.upd ?_ rfl _)), rfl⟩
    · have h := cfalse h g12
      refine wpE_skip ?_
      have q0 := Option.some.inj h
      obtain rfl := q0
      exact ⟨rfl, f7, (by repeat (first | exact (Keep.refl _ _ _ _) | refine Keep.upd ?_ rfl _)), rfl⟩
  rintro _ σ16 _ _ ⟨rfl, f15, k18, rfl⟩
  show wpE _ _ _ _ _ _ _ _
  refine e_reg ?_
  refine k_mov f15 ?_
  refine k_mov rfl ?_
  refine k_nil ?_
  refine wpE_ret ?_
  obtain rfl := Option.some.inj h
  exact e_ret (ct := 0) (.tmp rfl (back_sc rfl) .nil) rfl
/-- hookflash/dialplan.isOpen -/
theorem s89 {x0 : T_api_Hours} {cx0 : List IV} {x1 : Int} {r : Bool} (hx0 : R_api_Hours.rp false cx0 x0) (h : F89_dialplan_isOpen x0 x1 = some r) : pc L 89 [.agg (cx0.map I), .c (I (.int .i64 x1))] true (P89 r) := by
  refine fn_pure (fn := ir89) rfl (Nat.le_of_ble_eq_true rfl) fun lent hl => ?_
  unfold F89_dialplan_isOpen at h
  obtain ⟨v1, v3, rfl, q2, q4⟩ := R_api_Hours.inv hx0
  refine e_reg ?_
  refine k_box rfl rfl fun g5 hp6 k7 r8 => ?_
  refine k_mov rfl ?_
  refine k_nil ?_
  refine e_reg ?_
  refine k_mov rfl ?_
  refine k_fadrB (o := 1) rfl k7 ?_
  refine k_loadB rfl k7 rfl ?_
  refine k_bin rfl rfl rfl ?_
  refine k_bin rfl rfl rfl ?_
  refine k_mov rfl ?_
  obtain ⟨u9, e10, h⟩ := bnd_e h
  refine k_nil ?_
  refine e_reg ?_
  refine k_mov (cgI e10) ?_
  obtain ⟨y11, e12, h⟩ := obind h
  refine k_call (.cons rfl rfl (.cons rfl rfl .nil)) (s136  e12) (.inl rfl) ?_
  rintro _ rfl
  refine k_mov rfl ?_
  refine k_nil ?_
  refine e_reg ?_
  refine k_mov (cgI e10) ?_
  refine k_mov rfl ?_
  refine k_bin rfl rfl rfl ?_
  refine k_bin rfl rfl rfl ?_
  refine k_quo rfl rfl (q := _) rfl ?_
  refine k_mov rfl ?_
  obtain ⟨u14, e15, h⟩ := bnd_e h
  refine k_nil ?_
  refine wpE_seq ?_
  refine e_reg ?_
  refine k_fadrB (o := 3) rfl k7 ?_
  refine k_loadB rfl k7 rfl ?_
  refine k_len rfl (sv.any [] _ q4) ?_
  refine k_mov rfl ?_
  refine k_nil ?_
  refine wpE_block ?_
  refine gE fun σ16 e17 => ?_
  have f18 : σ16 2 = .v (.c (.r (.ptr 2 g5 0))) := (congrFun e17 2).trans rfl
  have f19 : σ16 6 = V (.int .i64 y11) := (congrFun e17 6).trans rfl
  have f20 : σ16 7 = V (.int .i64 u14) := (congrFun e17 7).trans (cgI e15)
  have f21 : σ16 26 = .v (.c ((I v3))) := (congrFun e17 26).trans rfl
  have f22 : σ16 27 = V (.int .i64 ((List.length x0.Holidays : Int))) := (congrFun e17 27).trans rfl
  have f23 : σ16 28 = V (.int .i64 ((0 : Int))) := (congrFun e17 28).trans rfl
  obtain ⟨e24, h25, h⟩ := lret_e h
  refine wpE_mono (e_loop h25 (I := fun s σ' hp' _ => σ' 28 = V (.int .i64 s) ∧ Keep [4, 9] 28 46 σ16 σ' ∧ Fr [9] hp6 hp') (X := fun e ex σ' hp' _ => match e with | .inl e => ex = .exit 0 ∧ Keep [4, 9] 28 46 σ16 σ' ∧ Fr [9] hp6 hp' | .inr r => ex = .ret ∧ ∀ ct, atEnd 78 [Res.tmp 4] (fin lent (P89 r)) .ret σ' hp' ct) ⟨f23, Keep.refl _ _ _ _, Fr.refl _ _⟩ ?_) ?_
  · clear h
    rintro w26 o σ28 hp29 _ h ⟨f27, k30, r31⟩
    have h : F89_dialplan_isOpen_l0 x0 y11 u14 w26 = some o := h; unfold F89_dialplan_isOpen_l0 at h
    have f32 : σ28 2 = .v (.c (.r (.ptr 2 g5 0))) := (k30 2 rfl).trans f18
    have f33 : σ28 6 = V (.int .i64 y11) := (k30 6 rfl).trans f19
    have f34 : σ28 7 = V (.int .i64 u14) := (k30 7 rfl).trans f20
    have f35 : σ28 26 = .v (.c ((I v3))) := (k30 26 rfl).trans f21
    have f36 : σ28 27 = V (.int .i64 ((List.length x0.Holidays : Int))) := (k30 27 rfl).trans f22
    have k37 := (r31 2 (by decide)).trans k7
    show wpE _ _ _ _ _ _ _ _
    refine e_reg ?_
    refine k_bin f27 f36 rfl ?_
    refine k_nil ?_
    refine wpE_seq ?_
    refine wpE_cond (p := (decide (w26 < ((List.length x0.Holidays : Int))))) rfl (fun g38 => ?_) (fun g38 => ?_)
    · have h := ctrue h g38
      refine wpE_skip ?_
      show wpE _ _ _ _ _ _ _ _
      refine wpE_seq ?_
      refine wpE_block ?_
      refine e_reg ?_
      obtain ⟨y39, e40, h⟩ := obind h
      refine k_iadrL f35 (sv.any [] _ q4) f27 e40 rfl fun p41 c42 q43 h44 => ?_
      obtain ⟨_, rfl⟩ := R_api_Holiday.inv h44
      refine k_loadL rfl q43 rfl ?_
      refine k_alloc fun g45 hp46 k47 r48 => ?_
      have r49 : Fr [9] hp6 hp46 := Fr.ext r31 r48 rfl
      have k50 := (r48 2 (by decide)).trans k37
      refine k_storeB rfl rfl k47 rfl fun hp51 k52 r53 => ?_
      have r54 : Fr [9] hp6 hp51 := Fr.ext r49 r53 rfl
      have k55 := (r53 2 (by decide)).trans k50
      refine k_nil ?_
      refine e_reg ?_
      refine k_fadrB (o := 0) rfl k52 ?_
      refine k_loadB rfl k52 rfl ?_
      refine k_mov f33 ?_
      refine k_bin rfl rfl rfl ?_
      refine k_nil ?_
      refine wpE_cond (p := (y39.Day == y11)) rfl (fun g56 => ?_) (fun g56 => ?_)
      · have h := ctrue h g56
        refine e_reg ?_
        refine k_mov f34 ?_
        refine k_fadrB (o := 1) rfl k52 ?_
        refine k_loadB rfl k52 rfl ?_
        refine k_bin rfl rfl rfl ?_
        refine k_mov rfl ?_
        refine gL fun σ57 e58 => ?_
        have k59 : Keep [4, 9] 28 46 σ16 σ57 := by rw [e58]; repeat (first | exact k30 | refine Keep.upd ?_ rfl _)
        have f60 : σ57 7 = V (.int .i64 u14) := (congrFun e58 7).trans f34
        have f61 : σ57 9 = .v (.c (.r (.ptr 9 g45 0))) := (congrFun e58 9).trans rfl
        have f62 : σ57 40 = V (.bool ((decide (u14 ≥ y39.From)))) := (congrFun e58 40).trans rfl
        refine k_mid (fun σ' hp' _ => hp51 = hp' ∧ σ' 45 = V (.bool (((decide (u14 ≥ y39.From)) && (decide (u14 < y39.To))))) ∧ Keep [] 41 45 σ57 σ') ?_ ?_
        · rcases bt ((decide (u14 ≥ y39.From))) with g63 | g63
          · refine k_yes (f62.trans (cgB g63)) ?_
            refine k_mov f60 ?_
            refine k_yes (f62.trans (cgB g63)) ?_
            refine k_fadrB (o := 2) f61 k52 ?_
            refine k_yes (f62.trans (cgB g63)) ?_
            refine k_loadB rfl k52 rfl ?_
            refine k_yes (f62.trans (cgB g63)) ?_
            refine k_bin rfl rfl rfl ?_
            refine k_pickT (f62.trans (cgB g63)) rfl ?_
            exact ⟨rfl, cgB (by rw [g63]; rfl), (by repeat (first | exact (Keep.refl _ _ _ _) | refine Keep.upd ?_ rfl _))⟩
          · refine k_no (f62.trans (cgB g63)) rfl ?_
            refine k_no (f62.trans (cgB g63)) rfl ?_
            refine k_no (f62.trans (cgB g63)) rfl ?_
            refine k_no (f62.trans (cgB g63)) rfl ?_
            refine k_pickF (f62.trans (cgB g63)) rfl ?_
            exact ⟨rfl, cgB (by rw [g63]; rfl), (by repeat (first | exact (Keep.refl _ _ _ _) | refine Keep.upd ?_ rfl _))⟩
        rintro σ64 _ _ ⟨rfl, f66, k65⟩
        have k67 : Keep [4, 9] 28 46 σ16 σ64 := Keep.trans k59 (Keep.sub k65 rfl)
        refine k_mov f66 ?_
        obtain ⟨u68, e69, h⟩ := bnd_e h
        refine k_nil ?_
        refine wpE_ret ?_
        obtain rfl := Option.some.inj h
        exact ⟨by decide, rfl, fun _ => e_ret (ct := 0) (.tmp (cgB e69) (back_sc rfl) .nil) rfl⟩
      · have h := cfalse h g56
        refine wpE_skip ?_
        show wpE _ _ _ _ _ _ _ _
        refine e_last ?_
        refine k_bin f27 rfl rfl ?_
        refine k_mov rfl ?_
        refine k_nil ?_
        obtain rfl := Option.some.inj h
        exact ⟨rfl, rfl, (by repeat (first | exact k30 | refine Keep.upd ?_ rfl _)), r54⟩
    · have h := cfalse h g38
      refine wpE_exit ?_
      obtain rfl := Option.some.inj h
      exact ⟨by decide, rfl, (by repeat (first | exact k30 | refine Keep.upd ?_ rfl _)), r31⟩
  rcases e24 with _ | r1
  rotate_left
  · rintro _ _ _ _ ⟨rfl, hX⟩
    obtain rfl := Option.some.inj h
    exact hX 0
  rintro _ σ70 hp71 _ ⟨rfl, k72, r73⟩
  have f74 : σ70 2 = .v (.c (.r (.ptr 2 g5 0))) := (k72 2 rfl).trans f18
  have f75 : σ70 6 = V (.int .i64 y11) := (k72 6 rfl).trans f19
  have f76 : σ70 7 = V (.int .i64 u14) := (k72 7 rfl).trans f20
  have k77 := (r73 2 (by decide)).trans k7
  show wpE _ _ _ _ _ _ _ _
  refine e_reg ?_
  refine k_mov f75 ?_
  refine k_mov f75 ?_
  obtain ⟨y78, e79, h⟩ := obind h
  refine k_call (.cons rfl rfl (.cons rfl rfl .nil)) (s136  e79) (.inl rfl) ?_
  rintro _ rfl
  refine k_bin rfl rfl rfl ?_
  refine k_bin rfl rfl rfl ?_
  refine k_mov rfl ?_
  refine k_nil ?_
  refine wpE_seq ?_
  refine e_reg ?_
  refine k_fadrB (o := 2) f74 k77 ?_
  refine k_loadB rfl k77 rfl ?_
  refine k_len rfl (sv.any [] _ q2) ?_
  refine k_mov rfl ?_
  refine k_nil ?_
  refine wpE_block ?_
  refine gE fun σ81 e82 => ?_
  have f83 : σ81 7 = V (.int .i64 u14) := (congrFun e82 7).trans f76
  have f84 : σ81 10 = V (.int .i64 ((IntKind.wrap .i64 (y11 - ((IntKind.wrap .i64 (((7 : Int)) * y78))))))) := (congrFun e82 10).trans rfl
  have f85 : σ81 53 = .v (.c ((I v1))) := (congrFun e82 53).trans rfl
  have f86 : σ81 54 = V (.int .i64 ((List.length x0.Rows : Int))) := (congrFun e82 54).trans rfl
  have f87 : σ81 55 = V (.int .i64 ((0 : Int))) := (congrFun e82 55).trans rfl
  obtain ⟨e88, h89, h⟩ := lret_e h
  refine wpE_mono (e_loop h89 (I := fun s σ' hp' _ => σ' 55 = V (.int .i64 s) ∧ Keep [4, 12] 55 77 σ81 σ' ∧ Fr [12] hp71 hp') (X := fun e ex σ' hp' _ => match e with | .inl e => ex = .exit 2 ∧ Keep [4, 12] 55 77 σ81 σ' ∧ Fr [12] hp71 hp' | .inr r => ex = .ret ∧ ∀ ct, atEnd 78 [Res.tmp 4] (fin lent (P89 r)) .ret σ' hp' ct) ⟨f87, Keep.refl _ _ _ _, Fr.refl _ _⟩ ?_) ?_
  · clear h
    rintro w90 o σ92 hp93 _ h ⟨f91, k94, r95⟩
    have h : F89_dialplan_isOpen_l1 x0 y11 u14 y78 w90 = some o := h; unfold F89_dialplan_isOpen_l1 at h
    have f96 : σ92 7 = V (.int .i64 u14) := (k94 7 rfl).trans f83
    have f97 : σ92 10 = V (.int .i64 ((IntKind.wrap .i64 (y11 - ((IntKind.wrap .i64 (((7 : Int)) * y78))))))) := (k94 10 rfl).trans f84
    have f98 : σ92 53 = .v (.c ((I v1))) := (k94 53 rfl).trans f85
    have f99 : σ92 54 = V (.int .i64 ((List.length x0.Rows : Int))) := (k94 54 rfl).trans f86
    show wpE _ _ _ _ _ _ _ _
    refine e_reg ?_
    refine k_bin f91 f99 rfl ?_
    refine k_nil ?_
    refine wpE_seq ?_
    refine wpE_cond (p := (decide (w90 < ((List.length x0.Rows : Int))))) rfl (fun g100 => ?_) (fun g100 => ?_)
    · have h := ctrue h g100
      refine wpE_skip ?_
      show wpE _ _ _ _ _ _ _ _
      refine wpE_seq ?_
      refine wpE_block ?_
      refine e_reg ?_
      obtain ⟨y101, e102, h⟩ := obind h
      refine k_iadrL f98 (sv.any [] _ q2) f91 e102 rfl fun p103 c104 q105 h106 => ?_
      obtain ⟨_, rfl⟩ := R_api_Row.inv h106
      refine k_loadL rfl q105 rfl ?_
      refine k_alloc fun g107 hp108 k109 r110 => ?_
      have r111 : Fr [12] hp71 hp108 := Fr.ext r95 r110 rfl
      refine k_storeB rfl rfl k109 rfl fun hp112 k113 r114 => ?_
      have r115 : Fr [12] hp71 hp112 := Fr.ext r111 r114 rfl
      refine k_nil ?_
      refine e_reg ?_
      refine k_fadrB (o := 0) rfl k113 ?_
      refine k_loadB rfl k113 rfl ?_
      refine k_mov f97 ?_
      obtain ⟨y116, e117, h⟩ := obind h
      refine k_shr rfl rfl e117 ?_
      refine k_bin rfl rfl rfl ?_
      refine k_bin rfl rfl rfl ?_
      refine k_mov rfl ?_
      refine gL fun σ118 e119 => ?_
      have k120 : Keep [4, 12] 55 77 σ81 σ118 := by rw [e119]; repeat (first | exact k94 | refine Keep.upd ?_ rfl _)
      have f121 : σ118 7 = V (.int .i64 u14) := (congrFun e119 7).trans f96
      have f122 : σ118 10 = V (.int .i64 ((IntKind.wrap .i64 (y11 - ((IntKind.wrap .i64 (((7 : Int)) * y78))))))) := (congrFun e119 10).trans f97
      have f123 : σ118 53 = .v (.c ((I v1))) := (congrFun e119 53).trans f98
      have f124 : σ118 54 = V (.int .i64 ((List.length x0.Rows : Int))) := (congrFun e119 54).trans f99
      have f125 : σ118 55 = V (.int .i64 w90) := (congrFun e119 55).trans f91
      have f126 : σ118 12 = .v (.c (.r (.ptr 12 g107 0))) := (congrFun e119 12).trans rfl
      have f127 : σ118 65 = V (.bool ((((gand .i64 y116 ((1 : Int)))) != ((0 : Int))))) := (congrFun e119 65).trans rfl
      refine k_mid (fun σ' hp' _ => hp112 = hp' ∧ σ' 70 = V (.bool (((((gand .i64 y116 ((1 : Int)))) != ((0 : Int))) && (decide (u14 ≥ y101.From))))) ∧ Keep [] 66 70 σ118 σ') ?_ ?_
      · rcases bt ((((gand .i64 y116 ((1 : Int)))) != ((0 : Int)))) with g128 | g128
        · refine k_yes (f127.trans (cgB g128)) ?_
          refine k_mov f121 ?_
          refine k_yes (f127.trans (cgB g128)) ?_
          refine k_fadrB (o := 1) f126 k113 ?_
          refine k_yes (f127.trans (cgB g128)) ?_
          refine k_loadB rfl k113 rfl ?_
          refine k_yes (f127.trans (cgB g128)) ?_
          refine k_bin rfl rfl rfl ?_
          refine k_pickT (f127.trans (cgB g128)) rfl ?_
          exact ⟨rfl, cgB (by rw [g128]; rfl), (by repeat (first | exact (Keep.refl _ _ _ _) | refine Keep.upd ?_ rfl _))⟩
        · refine k_no (f127.trans (cgB g128)) rfl ?_
          refine k_no (f127.trans (cgB g128)) rfl ?_
          refine k_no (f127.trans (cgB g128)) rfl ?_
          refine k_no (f127.trans (cgB g128)) rfl ?_
          refine k_pickF (f127.trans (cgB g128)) rfl ?_
          exact ⟨rfl, cgB (by rw [g128]; rfl), (by repeat (first | exact (Keep.refl _ _ _ _) | refine Keep.upd ?_ rfl _))⟩
      rintro σ129 _ _ ⟨rfl, f131, k130⟩
      have f132 : σ129 7 = V (.int .i64 u14) := (k130 7 rfl).trans f121
      have f133 : σ129 10 = V (.int .i64 ((IntKind.wrap .i64 (y11 - ((IntKind.wrap .i64 (((7 : Int)) * y78))))))) := (k130 10 rfl).trans f122
      have f134 : σ129 53 = .v (.c ((I v1))) := (k130 53 rfl).trans f123
      have f135 : σ129 54 = V (.int .i64 ((List.length x0.Rows : Int))) := (k130 54 rfl).trans f124
      have f136 : σ129 55 = V (.int .i64 w90) := (k130 55 rfl).trans f125
      have f137 : σ129 12 = .v (.c (.r (.ptr 12 g107 0))) := (k130 12 rfl).trans f126
      have k138 : Keep [4, 12] 55 77 σ81 σ129 := Keep.trans k120 (Keep.sub k130 rfl)
      refine k_mov f131 ?_
      refine gL fun σ139 e140 => ?_
      have k141 : Keep [4, 12] 55 77 σ81 σ139 := by rw [e140]; repeat (first | exact k138 | refine Keep.upd ?_ rfl _)
      have f142 : σ139 7 = V (.int .i64 u14) := (congrFun e140 7).trans f132
      have f143 : σ139 10 = V (.int .i64 ((IntKind.wrap .i64 (y11 - ((IntKind.wrap .i64 (((7 : Int)) * y78))))))) := (congrFun e140 10).trans f133
      have f144 : σ139 53 = .v (.c ((I v1))) := (congrFun e140 53).trans f134
      have f145 : σ139 54 = V (.int .i64 ((List.length x0.Rows : Int))) := (congrFun e140 54).trans f135
      have f146 : σ139 55 = V (.int .i64 w90) := (congrFun e140 55).trans f136
      have f147 : σ139 12 = .v (.c (.r (.ptr 12 g107 0))) := (congrFun e140 12).trans f137
      have f148 : σ139 71 = V (.bool (((((gand .i64 y116 ((1 : Int)))) != ((0 : Int))) && (decide (u14 ≥ y101.From))))) := (congrFun e140 71).trans rfl
      refine k_mid (fun σ' hp' _ => hp112 = hp' ∧ σ' 76 = V (.bool ((((((gand .i64 y116 ((1 : Int)))) != ((0 : Int))) && (decide (u14 ≥ y101.From))) && (decide (u14 < y101.To))))) ∧ Keep [] 72 76 σ139 σ') ?_ ?_
      · rcases bt (((((gand .i64 y116 ((1 : Int)))) != ((0 : Int))) && (decide (u14 ≥ y101.From)))) with g149 | g149
        · refine k_yes (f148.trans (cgB g149)) ?_
          refine k_mov f142 ?_
          refine k_yes (f148.trans (cgB g149)) ?_
          refine k_fadrB (o := 2) f147 k113 ?_
          refine k_yes (f148.trans (cgB g149)) ?_
          refine k_loadB rfl k113 rfl ?_
          refine k_yes (f148.trans (cgB g149)) ?_
          refine k_bin rfl rfl rfl ?_
          refine k_pickT (f148.trans (cgB g149)) rfl ?_
          exact ⟨rfl, cgB (by rw [g149]; rfl), (by repeat (first | exact (Keep.refl _ _ _ _) | refine Keep.upd ?_ rfl _))⟩
        · refine k_no (f148.trans (cgB g149)) rfl ?_
          refine k_no (f148.trans (cgB g149)) rfl ?_
          refine k_no (f148.trans (cgB g149)) rfl ?_
          refine k_no (f148.trans (cgB g149)) rfl ?_
          refine k_pickF (f148.trans (cgB g149)) rfl ?_
          exact ⟨rfl, cgB (by rw [g149]; rfl), (by repeat (first | exact (Keep.refl _ _ _ _) | refine Keep.upd ?_ rfl _))⟩
      rintro σ150 _ _ ⟨rfl, f152, k151⟩
      have f153 : σ150 7 = V (.int .i64 u14) := (k151 7 rfl).trans f142
      have f154 : σ150 10 = V (.int .i64 ((IntKind.wrap .i64 (y11 - ((IntKind.wrap .i64 (((7 : Int)) * y78))))))) := (k151 10 rfl).trans f143
      have f155 : σ150 53 = .v (.c ((I v1))) := (k151 53 rfl).trans f144
      have f156 : σ150 54 = V (.int .i64 ((List.length x0.Rows : Int))) := (k151 54 rfl).trans f145
      have f157 : σ150 55 = V (.int .i64 w90) := (k151 55 rfl).trans f146
      have k158 : Keep [4, 12] 55 77 σ81 σ150 := Keep.trans k141 (Keep.sub k151 rfl)
      refine k_nil ?_
      refine wpE_cond (p := (((((gand .i64 y116 ((1 : Int)))) != ((0 : Int))) && (decide (u14 ≥ y101.From))) && (decide (u14 < y101.To)))) f152 (fun g159 => ?_) (fun g159 => ?_)
      · have h := ctrue h g159
        refine e_reg ?_
        refine k_mov rfl ?_
        refine k_nil ?_
        refine wpE_ret ?_
        obtain rfl := Option.some.inj h
        exact ⟨by decide, rfl, fun _ => e_ret (ct := 0) (.tmp rfl (back_sc rfl) .nil) rfl⟩
      · have h := cfalse h g159
        refine wpE_skip ?_
        show wpE _ _ _ _ _ _ _ _
        refine e_last ?_
        refine k_bin f157 rfl rfl ?_
        refine k_mov rfl ?_
        refine k_nil ?_
        obtain rfl := Option.some.inj h
        exact ⟨rfl, rfl, (by repeat (first | exact k158 | refine Keep.upd ?_ rfl _)), r115⟩
    · have h := cfalse h g100
      refine wpE_exit ?_
      obtain rfl := Option.some.inj h
      exact ⟨by decide, rfl, (by repeat (first | exact k94 | refine Keep.upd ?_ rfl _)), r95⟩
  rcases e88 with _ | r1
  rotate_left
  · rintro _ _ _ _ ⟨rfl, hX⟩
    obtain rfl := Option.some.inj h
    exact hX 0
  rintro _ σ160 hp161 _ ⟨rfl, k162, r163⟩
  show wpE _ _ _ _ _ _ _ _
  refine e_reg ?_
  refine k_mov rfl ?_
  refine k_nil ?_
  refine wpE_ret ?_
  obtain rfl := Option.some.inj h
  exact e_ret (ct := 0) (.tmp rfl (back_sc rfl) .nil) rfl
end Go.Proofs.YtcbepglkfglclaaDoor
