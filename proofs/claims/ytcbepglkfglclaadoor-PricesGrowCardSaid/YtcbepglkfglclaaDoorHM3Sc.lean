/-
  The small code of functions comes to the Lean functions. Printed by a program of mine.
-/
import Derived.Test.YtcbepglkfglclaaDoorHM3Sb
namespace Go.Proofs.YtcbepglkfglclaaDoor
open Go Go.Abs
set_option maxRecDepth 100000
set_option maxHeartbeats 1000000
/-- hookflash/account.CheckTariff -/
theorem s60 {x0 : T_api_Tariff} {cx0 : List IV} {r : Int} (hx0 : R_api_Tariff.rp false cx0 x0) (h : F60_account_CheckTariff x0 = some r) : pc L 60 [.agg (cx0.map I)] true (P60 r) := by
  refine fn_pure (fn := ir60) rfl (Nat.le_of_ble_eq_true rfl) fun lent hl => ?_
  unfold F60_account_CheckTariff at h
  obtain ⟨v1, v3, rfl, q2, q4⟩ := R_api_Tariff.inv hx0
  refine e_reg ?_
  refine k_box rfl rfl fun g5 hp6 k7 r8 => ?_
  refine k_mov rfl ?_
  refine k_nil ?_
  refine wpE_seq ?_
  refine e_reg ?_
  refine k_fadrB (o := 0) rfl k7 ?_
  refine k_loadB rfl k7 rfl ?_
  refine k_len rfl (sv.any [] _ q2) ?_
  refine k_bin rfl rfl rfl ?_
  refine k_nil ?_
  refine wpE_cond (p := (decide (((List.length x0.Classes : Int)) > ((200 : Int))))) rfl (fun g9 => ?_) (fun g9 => ?_)
  · have h := ctrue h g9
    refine e_reg ?_
    refine k_mov rfl ?_
    refine k_nil ?_
    refine wpE_ret ?_
    obtain rfl := Option.some.inj h
    exact e_ret (ct := 0) (.tmp rfl (back_sc rfl) .nil) rfl
  · have h := cfalse h g9
    refine wpE_skip ?_
    show wpE _ _ _ _ _ _ _ _
    refine wpE_seq ?_
    refine e_reg ?_
    refine k_fadrB (o := 0) rfl k7 ?_
    refine k_loadB rfl k7 rfl ?_
    refine k_len rfl (sv.any [] _ q2) ?_
    refine k_mov rfl ?_
    refine k_nil ?_
    refine wpE_block ?_
    refine gE fun σ10 e11 => ?_
    have f12 : σ10 1 = .v (.c (.r (.ptr 1 g5 0))) := (congrFun e11 1).trans rfl
    have f13 : σ10 12 = .v (.c ((I v1))) := (congrFun e11 12).trans rfl
    have f14 : σ10 13 = V (.int .i64 ((List.length x0.Classes : Int))) := (congrFun e11 13).trans rfl
    have f15 : σ10 14 = V (.int .i64 ((0 : Int))) := (congrFun e11 14).trans rfl
    obtain ⟨e16, h17, h⟩ := lret_e h
    refine wpE_mono (e_loop h17 (I := fun s σ' hp' _ => σ' 14 = V (.int .i64 s) ∧ Keep [2, 3, 4] 14 67 σ10 σ' ∧ Fr [4] hp6 hp') (X := fun e ex σ' hp' _ => match e with | .inl e => ex = .exit 0 ∧ Keep [2, 3, 4] 14 67 σ10 σ' ∧ Fr [4] hp6 hp' | .inr r => ex = .ret ∧ ∀ ct, atEnd 100 [Res.tmp 2] (fin lent (P60 r)) .ret σ' hp' ct) ⟨f15, Keep.refl _ _ _ _, Fr.refl _ _⟩ ?_) ?_
    · clear h
      rintro w18 o σ20 hp21 _ h ⟨f19, k22, r23⟩
      have h : F60_account_CheckTariff_l0 x0 w18 = some o := h; unfold F60_account_CheckTariff_l0 at h
      have f24 : σ20 1 = .v (.c (.r (.ptr 1 g5 0))) := (k22 1 rfl).trans f12
      have f25 : σ20 12 = .v (.c ((I v1))) := (k22 12 rfl).trans f13
      have f26 : σ20 13 = V (.int .i64 ((List.length x0.Classes : Int))) := (k22 13 rfl).trans f14
      have k27 := (r23 1 (by decide)).trans k7
      show wpE _ _ _ _ _ _ _ _
      refine e_reg ?_
      refine k_bin f19 f26 rfl ?_
      refine k_nil ?_
      refine wpE_seq ?_
      refine wpE_cond (p := (decide (w18 < ((List.length x0.Classes : Int))))) rfl (fun g28 => ?_) (fun g28 => ?_)
      · have h := ctrue h g28
        refine wpE_skip ?_
        show wpE _ _ _ _ _ _ _ _
        refine wpE_seq ?_
        refine wpE_block ?_
        refine e_reg ?_
        refine k_mov f19 ?_
        obtain ⟨y29, e30, h⟩ := obind h
        refine k_iadrL f25 (sv.any [] _ q2) f19 e30 rfl fun p31 c32 q33 h34 => ?_
        obtain ⟨_, rfl⟩ := R_api_Class.inv h34
        refine k_loadL rfl q33 rfl ?_
        refine k_alloc fun g35 hp36 k37 r38 => ?_
        have r39 : Fr [4] hp6 hp36 := Fr.ext r23 r38 rfl
        have k40 := (r38 1 (by decide)).trans k27
        refine k_mov rfl ?_
        refine k_storeB rfl rfl k37 rfl fun hp41 k42 r43 => ?_
        have r44 : Fr [4] hp6 hp41 := Fr.ext r39 r43 rfl
        have k45 := (r43 1 (by decide)).trans k40
        refine k_nil ?_
        refine wpE_block ?_
        refine e_reg ?_
        refine k_fadrB (o := 0) rfl k42 ?_
        refine k_loadB rfl k42 rfl ?_
        obtain ⟨y46, e47, h⟩ := obind h
        refine k_call (.cons rfl rfl .nil) (s109  e47) (.inl rfl) ?_
        rintro _ rfl
        refine k_not rfl ?_
        refine k_mov rfl ?_
        refine k_nil ?_
        refine wpE_cond (p := (!y46)) rfl (fun g49 => ?_) (fun g49 => ?_)
        · have h := ctrue h g49
          refine e_reg ?_
          refine k_mov rfl ?_
          refine k_nil ?_
          refine wpE_ret ?_
          obtain rfl := Option.some.inj h
          exact ⟨by decide, rfl, fun _ => e_ret (ct := 0) (.tmp rfl (back_sc rfl) .nil) rfl⟩
        · have h := cfalse h g49
          refine e_reg ?_
          refine k_fadrB (o := 1) rfl k42 ?_
          refine k_loadB rfl k42 rfl ?_
          obtain ⟨y50, e51, h⟩ := obind h
          refine k_call (.cons rfl rfl .nil) (s110  e51) (.inl rfl) ?_
          rintro _ rfl
          refine k_not rfl ?_
          refine k_mov rfl ?_
          refine k_nil ?_
          refine wpE_cond (p := (!y50)) rfl (fun g53 => ?_) (fun g53 => ?_)
          · have h := ctrue h g53
            refine e_reg ?_
            refine k_mov rfl ?_
            refine k_nil ?_
            refine wpE_ret ?_
            obtain rfl := Option.some.inj h
            exact ⟨by decide, rfl, fun _ => e_ret (ct := 0) (.tmp rfl (back_sc rfl) .nil) rfl⟩
          · have h := cfalse h g53
            refine e_reg ?_
            refine k_fadrB (o := 2) rfl k42 ?_
            refine k_loadB rfl k42 rfl ?_
            obtain ⟨y54, e55, h⟩ := obind h
            refine k_call (.cons rfl rfl (.cons rfl rfl (.cons rfl rfl .nil))) (s62  e55) (.inl rfl) ?_
            rintro _ rfl
            refine k_not rfl ?_
            refine k_mov rfl ?_
            refine gL fun σ57 e58 => ?_
            have k59 : Keep [2, 3, 4] 14 67 σ10 σ57 := by rw [e58]; repeat (first | exact k22 | refine Keep.upd ?_ rfl _)
            have f60 : σ57 1 = .v (.c (.r (.ptr 1 g5 0))) := (congrFun e58 1).trans f24
            have f61 : σ57 12 = .v (.c ((I v1))) := (congrFun e58 12).trans f25
            have f62 : σ57 13 = V (.int .i64 ((List.length x0.Classes : Int))) := (congrFun e58 13).trans f26
            have f63 : σ57 14 = V (.int .i64 w18) := (congrFun e58 14).trans f19
            have f64 : σ57 4 = .v (.c (.r (.ptr 4 g35 0))) := (congrFun e58 4).trans rfl
            have f65 : σ57 3 = V (.int .i64 w18) := (congrFun e58 3).trans rfl
            have f66 : σ57 34 = V (.bool (!y54)) := (congrFun e58 34).trans rfl
            obtain ⟨y71, e72, h⟩ := obind h
            refine k_mid (fun σ' hp' _ => hp41 = hp' ∧ σ' 39 = V (.bool y71) ∧ Keep [] 35 39 σ57 σ') ?_ ?_
            · rcases bt (!y54) with g67 | g67
              · have h := ctrue e72 g67
                refine k_no (f66.trans (cgB g67)) rfl ?_
                refine k_no (f66.trans (cgB g67)) rfl ?_
                refine k_no (f66.trans (cgB g67)) rfl ?_
                refine k_no (f66.trans (cgB g67)) rfl ?_
                refine k_pickT (f66.trans (cgB g67)) rfl ?_
                exact ⟨rfl, cgB (Option.some.inj h), (by repeat (first | exact (Keep.refl _ _ _ _) | refine Keep.upd ?_ rfl _))⟩
              · have h := cfalse e72 g67
                refine k_yes (f66.trans (cgB g67)) ?_
                refine k_fadrB (o := 5) f64 k42 ?_
                refine k_yes (f66.trans (cgB g67)) ?_
                refine k_loadB rfl k42 rfl ?_
                refine k_yes (f66.trans (cgB g67)) ?_
                obtain ⟨y68, e69, h⟩ := obind h
                refine k_call (.cons rfl rfl (.cons rfl rfl (.cons rfl rfl .nil))) (s62  e69) (.inl rfl) ?_
                rintro _ rfl
                refine k_yes (f66.trans (cgB g67)) ?_
                refine k_not rfl ?_
                refine k_pickF (f66.trans (cgB g67)) rfl ?_
                exact ⟨rfl, cgB (Option.some.inj h), (by repeat (first | exact (Keep.refl _ _ _ _) | refine Keep.upd ?_ rfl _))⟩
            rintro σ73 _ _ ⟨rfl, f75, k74⟩
            have f76 : σ73 1 = .v (.c (.r (.ptr 1 g5 0))) := (k74 1 rfl).trans f60
            have f77 : σ73 12 = .v (.c ((I v1))) := (k74 12 rfl).trans f61
            have f78 : σ73 13 = V (.int .i64 ((List.length x0.Classes : Int))) := (k74 13 rfl).trans f62
            have f79 : σ73 14 = V (.int .i64 w18) := (k74 14 rfl).trans f63
            have f80 : σ73 4 = .v (.c (.r (.ptr 4 g35 0))) := (k74 4 rfl).trans f64
            have f81 : σ73 3 = V (.int .i64 w18) := (k74 3 rfl).trans f65
            have k82 : Keep [2, 3, 4] 14 67 σ10 σ73 := Keep.trans k59 (Keep.sub k74 rfl)
            refine k_mov f75 ?_
            refine gL fun σ83 e84 => ?_
            have k85 : Keep [2, 3, 4] 14 67 σ10 σ83 := by rw [e84]; repeat (first | exact k82 | refine Keep.upd ?_ rfl _)
            have f86 : σ83 1 = .v (.c (.r (.ptr 1 g5 0))) := (congrFun e84 1).trans f76
            have f87 : σ83 12 = .v (.c ((I v1))) := (congrFun e84 12).trans f77
            have f88 : σ83 13 = V (.int .i64 ((List.length x0.Classes : Int))) := (congrFun e84 13).trans f78
            have f89 : σ83 14 = V (.int .i64 w18) := (congrFun e84 14).trans f79
            have f90 : σ83 4 = .v (.c (.r (.ptr 4 g35 0))) := (congrFun e84 4).trans f80
            have f91 : σ83 3 = V (.int .i64 w18) := (congrFun e84 3).trans f81
            have f92 : σ83 40 = V (.bool y71) := (congrFun e84 40).trans rfl
            obtain ⟨y97, e98, h⟩ := obind h
            refine k_mid (fun σ' hp' _ => hp41 = hp' ∧ σ' 45 = V (.bool y97) ∧ Keep [] 41 45 σ83 σ') ?_ ?_
            · rcases bt y71 with g93 | g93
              · have h := ctrue e98 g93
                refine k_no (f92.trans (cgB g93)) rfl ?_
                refine k_no (f92.trans (cgB g93)) rfl ?_
                refine k_no (f92.trans (cgB g93)) rfl ?_
                refine k_no (f92.trans (cgB g93)) rfl ?_
                refine k_pickT (f92.trans (cgB g93)) rfl ?_
                exact ⟨rfl, cgB (Option.some.inj h), (by repeat (first | exact (Keep.refl _ _ _ _) | refine Keep.upd ?_ rfl _))⟩
              · have h := cfalse e98 g93
                refine k_yes (f92.trans (cgB g93)) ?_
                refine k_fadrB (o := 3) f90 k42 ?_
                refine k_yes (f92.trans (cgB g93)) ?_
                refine k_loadB rfl k42 rfl ?_
                refine k_yes (f92.trans (cgB g93)) ?_
                obtain ⟨y94, e95, h⟩ := obind h
                refine k_call (.cons rfl rfl (.cons rfl rfl (.cons rfl rfl .nil))) (s62  e95) (.inl rfl) ?_
                rintro _ rfl
                refine k_yes (f92.trans (cgB g93)) ?_
                refine k_not rfl ?_
                refine k_pickF (f92.trans (cgB g93)) rfl ?_
                exact ⟨rfl, cgB (Option.some.inj h), (by repeat (first | exact (Keep.refl _ _ _ _) | refine Keep.upd ?_ rfl _))⟩
            rintro σ99 _ _ ⟨rfl, f101, k100⟩
            have f102 : σ99 1 = .v (.c (.r (.ptr 1 g5 0))) := (k100 1 rfl).trans f86
            have f103 : σ99 12 = .v (.c ((I v1))) := (k100 12 rfl).trans f87
            have f104 : σ99 13 = V (.int .i64 ((List.length x0.Classes : Int))) := (k100 13 rfl).trans f88
            have f105 : σ99 14 = V (.int .i64 w18) := (k100 14 rfl).trans f89
            have f106 : σ99 4 = .v (.c (.r (.ptr 4 g35 0))) := (k100 4 rfl).trans f90
            have f107 : σ99 3 = V (.int .i64 w18) := (k100 3 rfl).trans f91
            have k108 : Keep [2, 3, 4] 14 67 σ10 σ99 := Keep.trans k85 (Keep.sub k100 rfl)
            refine k_mov f101 ?_
            refine gL fun σ109 e110 => ?_
            have k111 : Keep [2, 3, 4] 14 67 σ10 σ109 := by rw [e110]; repeat (first | exact k108 | refine Keep.upd ?_ rfl _)
            have f112 : σ109 1 = .v (.c (.r (.ptr 1 g5 0))) := (congrFun e110 1).trans f102
            have f113 : σ109 12 = .v (.c ((I v1))) := (congrFun e110 12).trans f103
            have f114 : σ109 13 = V (.int .i64 ((List.length x0.Classes : Int))) := (congrFun e110 13).trans f104
            have f115 : σ109 14 = V (.int .i64 w18) := (congrFun e110 14).trans f105
            have f116 : σ109 4 = .v (.c (.r (.ptr 4 g35 0))) := (congrFun e110 4).trans f106
            have f117 : σ109 3 = V (.int .i64 w18) := (congrFun e110 3).trans f107
            have f118 : σ109 46 = V (.bool y97) := (congrFun e110 46).trans rfl
            obtain ⟨y123, e124, h⟩ := obind h
            refine k_mid (fun σ' hp' _ => hp41 = hp' ∧ σ' 51 = V (.bool y123) ∧ Keep [] 47 51 σ109 σ') ?_ ?_
            · rcases bt y97 with g119 | g119
              · have h := ctrue e124 g119
                refine k_no (f118.trans (cgB g119)) rfl ?_
                refine k_no (f118.trans (cgB g119)) rfl ?_
                refine k_no (f118.trans (cgB g119)) rfl ?_
                refine k_no (f118.trans (cgB g119)) rfl ?_
                refine k_pickT (f118.trans (cgB g119)) rfl ?_
                exact ⟨rfl, cgB (Option.some.inj h), (by repeat (first | exact (Keep.refl _ _ _ _) | refine Keep.upd ?_ rfl _))⟩
              · have h := cfalse e124 g119
                refine k_yes (f118.trans (cgB g119)) ?_
                refine k_fadrB (o := 4) f116 k42 ?_
                refine k_yes (f118.trans (cgB g119)) ?_
                refine k_loadB rfl k42 rfl ?_
                refine k_yes (f118.trans (cgB g119)) ?_
                obtain ⟨y120, e121, h⟩ := obind h
                refine k_call (.cons rfl rfl (.cons rfl rfl (.cons rfl rfl .nil))) (s62  e121) (.inl rfl) ?_
                rintro _ rfl
                refine k_yes (f118.trans (cgB g119)) ?_
                refine k_not rfl ?_
                refine k_pickF (f118.trans (cgB g119)) rfl ?_
                exact ⟨rfl, cgB (Option.some.inj h), (by repeat (first | exact (Keep.refl _ _ _ _) | refine Keep.upd ?_ rfl _))⟩
            rintro σ125 _ _ ⟨rfl, f127, k126⟩
            have f128 : σ125 1 = .v (.c (.r (.ptr 1 g5 0))) := (k126 1 rfl).trans f112
            have f129 : σ125 12 = .v (.c ((I v1))) := (k126 12 rfl).trans f113
            have f130 : σ125 13 = V (.int .i64 ((List.length x0.Classes : Int))) := (k126 13 rfl).trans f114
            have f131 : σ125 14 = V (.int .i64 w18) := (k126 14 rfl).trans f115
            have f132 : σ125 4 = .v (.c (.r (.ptr 4 g35 0))) := (k126 4 rfl).trans f116
            have f133 : σ125 3 = V (.int .i64 w18) := (k126 3 rfl).trans f117
            have k134 : Keep [2, 3, 4] 14 67 σ10 σ125 := Keep.trans k111 (Keep.sub k126 rfl)
            refine k_mov f127 ?_
            refine k_nil ?_
            refine wpE_cond (p := y123) rfl (fun g135 => ?_) (fun g135 => ?_)
            · have h := ctrue h g135
              refine e_reg ?_
              refine k_mov rfl ?_
              refine k_nil ?_
              refine wpE_ret ?_
              obtain rfl := Option.some.inj h
              exact ⟨by decide, rfl, fun _ => e_ret (ct := 0) (.tmp rfl (back_sc rfl) .nil) rfl⟩
            · have h := cfalse h g135
              refine e_regD (by kernel_rfl) (by kernel_rfl) ?_
              refine k_mov f133 ?_
              refine k_bin rfl rfl rfl ?_
              refine k_mov rfl ?_
              refine gL fun σ136 e137 => ?_
              have k138 : Keep [2, 3, 4] 14 67 σ10 σ136 := by rw [e137]; repeat (first | exact k134 | refine Keep.upd ?_ rfl _)
              have f139 : σ136 1 = .v (.c (.r (.ptr 1 g5 0))) := (congrFun e137 1).trans f128
              have f140 : σ136 12 = .v (.c ((I v1))) := (congrFun e137 12).trans f129
              have f141 : σ136 13 = V (.int .i64 ((List.length x0.Classes : Int))) := (congrFun e137 13).trans f130
              have f142 : σ136 14 = V (.int .i64 w18) := (congrFun e137 14).trans f131
              have f143 : σ136 4 = .v (.c (.r (.ptr 4 g35 0))) := (congrFun e137 4).trans f132
              have f144 : σ136 3 = V (.int .i64 w18) := (congrFun e137 3).trans f133
              have f145 : σ136 55 = V (.bool ((decide (w18 > ((0 : Int)))))) := (congrFun e137 55).trans rfl
              obtain ⟨y155, e156, h⟩ := obind h
              refine k_mid (fun σ' hp' _ => hp41 = hp' ∧ σ' 66 = V (.bool y155) ∧ Keep [] 56 66 σ136 σ') ?_ ?_
              · rcases bt ((decide (w18 > ((0 : Int))))) with g146 | g146
                · have h := ctrue e156 g146
                  refine k_yes (f145.trans (cgB g146)) ?_
                  refine k_fadrB (o := 0) f143 k42 ?_
                  refine k_yes (f145.trans (cgB g146)) ?_
                  refine k_loadB rfl k42 rfl ?_
                  refine k_yes (f145.trans (cgB g146)) ?_
                  refine k_fadrB (o := 0) f139 k45 ?_
                  refine k_yes (f145.trans (cgB g146)) ?_
                  refine k_loadB rfl k45 rfl ?_
                  refine k_yes (f145.trans (cgB g146)) ?_
                  refine k_mov f144 ?_
                  refine k_yes (f145.trans (cgB g146)) ?_
                  refine k_bin rfl rfl rfl ?_
                  refine k_yes (f145.trans (cgB g146)) ?_
                  obtain ⟨y147, e148, h⟩ := obind h
                  refine k_iadrL rfl (sv.any [] _ q2) rfl e148 rfl fun p149 c150 q151 h152 => ?_
                  obtain ⟨_, rfl⟩ := R_api_Class.inv h152
                  refine k_yes (f145.trans (cgB g146)) ?_
                  refine k_fadrL (o := 0) rfl q151 (Nat.le_of_ble_eq_true rfl) fun p153 q154 => ?_
                  refine k_yes (f145.trans (cgB g146)) ?_
                  refine k_loadL rfl q154 rfl ?_
                  refine k_yes (f145.trans (cgB g146)) ?_
                  refine k_bin rfl rfl rfl ?_
                  refine k_pickT (f145.trans (cgB g146)) rfl ?_
                  exact ⟨rfl, cgB (Option.some.inj h), (by repeat (first | exact (Keep.refl _ _ _ _) | refine Keep.upd ?_ rfl _))⟩
                · have h := cfalse e156 g146
                  refine k_no (f145.trans (cgB g146)) rfl ?_
                  refine k_no (f145.trans (cgB g146)) rfl ?_
                  refine k_no (f145.trans (cgB g146)) rfl ?_
                  refine k_no (f145.trans (cgB g146)) rfl ?_
                  refine k_no (f145.trans (cgB g146)) rfl ?_
                  refine k_no (f145.trans (cgB g146)) rfl ?_
                  refine k_no (f145.trans (cgB g146)) rfl ?_
                  refine k_no (f145.trans (cgB g146)) rfl ?_
                  refine k_no (f145.trans (cgB g146)) rfl ?_
                  refine k_no (f145.trans (cgB g146)) rfl ?_
                  refine k_pickF (f145.trans (cgB g146)) rfl ?_
                  exact ⟨rfl, cgB (Option.some.inj h), (by repeat (first | exact (Keep.refl _ _ _ _) | refine Keep.upd ?_ rfl _))⟩
              rintro σ157 _ _ ⟨rfl, f159, k158⟩
              have f160 : σ157 1 = .v (.c (.r (.ptr 1 g5 0))) := (k158 1 rfl).trans f139
              have f161 : σ157 12 = .v (.c ((I v1))) := (k158 12 rfl).trans f140
              have f162 : σ157 13 = V (.int .i64 ((List.length x0.Classes : Int))) := (k158 13 rfl).trans f141
              have f163 : σ157 14 = V (.int .i64 w18) := (k158 14 rfl).trans f142
              have k164 : Keep [2, 3, 4] 14 67 σ10 σ157 := Keep.trans k138 (Keep.sub k158 rfl)
              refine k_mov f159 ?_
              refine k_nil ?_
              refine wpE_cond (p := y155) rfl (fun g165 => ?_) (fun g165 => ?_)
              · have h := ctrue h g165
                refine e_reg ?_
                refine k_mov rfl ?_
                refine k_nil ?_
                refine wpE_ret ?_
                obtain rfl := Option.some.inj h
                exact ⟨by decide, rfl, fun _ => e_ret (ct := 0) (.tmp rfl (back_sc rfl) .nil) rfl⟩
              · have h := cfalse h g165
                refine wpE_skip ?_
                show wpE _ _ _ _ _ _ _ _
                refine e_last ?_
                refine k_bin f163 rfl rfl ?_
                refine k_mov rfl ?_
                refine k_nil ?_
                obtain rfl := Option.some.inj h
                exact ⟨rfl, rfl, (by repeat (first | exact k164 | refine Keep.upd ?_ rfl _)), r44⟩
      · have h := cfalse h g28
        refine wpE_exit ?_
        obtain rfl := Option.some.inj h
        exact ⟨by decide, rfl, (by repeat (first | exact k22 | refine Keep.upd ?_ rfl _)), r23⟩
    rcases e16 with _ | r1
    rotate_left
    · rintro _ _ _ _ ⟨rfl, hX⟩
      obtain rfl := Option.some.inj h
      exact hX 0
    rintro _ σ166 hp167 _ ⟨rfl, k168, r169⟩
    have f170 : σ166 1 = .v (.c (.r (.ptr 1 g5 0))) := (k168 1 rfl).trans f12
    have k171 := (r169 1 (by decide)).trans k7
    show wpE _ _ _ _ _ _ _ _
    refine wpE_seq ?_
    refine e_reg ?_
    refine k_fadrB (o := 1) f170 k171 ?_
    refine k_loadB rfl k171 rfl ?_
    obtain ⟨y172, e173, h⟩ := obind h
    refine k_call (.cons rfl rfl (.cons rfl rfl (.cons rfl rfl .nil))) (s62  e173) (.inl rfl) ?_
    rintro _ rfl
    refine k_not rfl ?_
    refine k_nil ?_
    refine wpE_cond (p := (!y172)) rfl (fun g175 => ?_) (fun g175 => ?_)
    · have h := ctrue h g175
      refine e_reg ?_
      refine k_mov rfl ?_
      refine k_nil ?_
      refine wpE_ret ?_
      obtain rfl := Option.some.inj h
      exact e_ret (ct := 0) (.tmp rfl (back_sc rfl) .nil) rfl
    · have h := cfalse h g175
      refine wpE_skip ?_
      show wpE _ _ _ _ _ _ _ _
      refine wpE_seq ?_
      refine e_reg ?_
      refine k_fadrB (o := 2) f170 k171 ?_
      refine k_loadB rfl k171 rfl ?_
      refine k_len rfl (sv.any [] _ q4) ?_
      refine k_bin rfl rfl rfl ?_
      refine k_nil ?_
      refine wpE_cond (p := (decide (((List.length x0.Inside : Int)) > ((200 : Int))))) rfl (fun g176 => ?_) (fun g176 => ?_)
      · have h := ctrue h g176
        refine e_reg ?_
        refine k_mov rfl ?_
        refine k_nil ?_
        refine wpE_ret ?_
        obtain rfl := Option.some.inj h
        exact e_ret (ct := 0) (.tmp rfl (back_sc rfl) .nil) rfl
      · have h := cfalse h g176
        refine wpE_skip ?_
        show wpE _ _ _ _ _ _ _ _
        refine wpE_seq ?_
        refine e_reg ?_
        refine k_fadrB (o := 2) f170 k171 ?_
        refine k_loadB rfl k171 rfl ?_
        refine k_len rfl (sv.any [] _ q4) ?_
        refine k_mov rfl ?_
        refine k_nil ?_
        refine wpE_block ?_
        refine gE fun σ177 e178 => ?_
        have f179 : σ177 1 = .v (.c (.r (.ptr 1 g5 0))) := (congrFun e178 1).trans f170
        have f180 : σ177 77 = .v (.c ((I v3))) := (congrFun e178 77).trans rfl
        have f181 : σ177 78 = V (.int .i64 ((List.length x0.Inside : Int))) := (congrFun e178 78).trans rfl
        have f182 : σ177 79 = V (.int .i64 ((0 : Int))) := (congrFun e178 79).trans rfl
        obtain ⟨e183, h184, h⟩ := lret_e h
        refine wpE_mono (e_loop h184 (I := fun s σ' hp' _ => σ' 79 = V (.int .i64 s) ∧ Keep [2, 5, 6] 79 99 σ177 σ' ∧ hp167 = hp') (X := fun e ex σ' hp' _ => match e with | .inl e => ex = .exit 3 ∧ Keep [2, 5, 6] 79 99 σ177 σ' ∧ hp167 = hp' | .inr r => ex = .ret ∧ ∀ ct, atEnd 100 [Res.tmp 2] (fin lent (P60 r)) .ret σ' hp' ct) ⟨f182, Keep.refl _ _ _ _, rfl⟩ ?_) ?_
        · clear h
          rintro w185 o σ187 _ _ h ⟨f186, k189, rfl⟩
          have h : F60_account_CheckTariff_l1 x0 w185 = some o := h; unfold F60_account_CheckTariff_l1 at h
          have f191 : σ187 1 = .v (.c (.r (.ptr 1 g5 0))) := (k189 1 rfl).trans f179
          have f192 : σ187 77 = .v (.c ((I v3))) := (k189 77 rfl).trans f180
          have f193 : σ187 78 = V (.int .i64 ((List.length x0.Inside : Int))) := (k189 78 rfl).trans f181
          show wpE _ _ _ _ _ _ _ _
          refine e_reg ?_
          refine k_bin f186 f193 rfl ?_
          refine k_nil ?_
          refine wpE_seq ?_
          refine wpE_cond (p := (decide (w185 < ((List.length x0.Inside : Int))))) rfl (fun g194 => ?_) (fun g194 => ?_)
          · have h := ctrue h g194
            refine wpE_skip ?_
            show wpE _ _ _ _ _ _ _ _
            refine wpE_seq ?_
            refine wpE_block ?_
            refine e_reg ?_
            refine k_mov f186 ?_
            obtain ⟨y195, e196, h⟩ := obind h
            refine k_iadrL f192 (sv.any [] _ q4) f186 e196 rfl fun p197 c198 q199 h200 => ?_
            obtain rfl : c198 = [IV.str y195] := h200
            refine k_loadL rfl q199 rfl ?_
            refine k_mov rfl ?_
            refine k_mov rfl ?_
            refine k_nil ?_
            refine wpE_seq ?_
            refine e_reg ?_
            refine k_mov rfl ?_
            obtain ⟨y201, e202, h⟩ := obind h
            refine k_call (.cons rfl rfl .nil) (s110  e202) (.inl rfl) ?_
            rintro _ rfl
            refine k_not rfl ?_
            refine k_nil ?_
            refine wpE_cond (p := (!y201)) rfl (fun g204 => ?_) (fun g204 => ?_)
            · have h := ctrue h g204
              refine e_reg ?_
              refine k_mov rfl ?_
              refine k_nil ?_
              refine wpE_ret ?_
              obtain rfl := Option.some.inj h
              exact ⟨by decide, rfl, fun _ => e_ret (ct := 0) (.tmp rfl (back_sc rfl) .nil) rfl⟩
            · have h := cfalse h g204
              refine wpE_skip ?_
              show wpE _ _ _ _ _ _ _ _
              refine e_reg ?_
              refine k_mov rfl ?_
              refine k_bin rfl rfl rfl ?_
              refine k_mov rfl ?_
              refine gL fun σ205 e206 => ?_
              have k207 : Keep [2, 5, 6] 79 99 σ177 σ205 := by rw [e206]; repeat (first | exact k189 | refine Keep.upd ?_ rfl _)
              have f208 : σ205 1 = .v (.c (.r (.ptr 1 g5 0))) := (congrFun e206 1).trans f191
              have f209 : σ205 77 = .v (.c ((I v3))) := (congrFun e206 77).trans f192
              have f210 : σ205 78 = V (.int .i64 ((List.length x0.Inside : Int))) := (congrFun e206 78).trans f193
              have f211 : σ205 79 = V (.int .i64 w185) := (congrFun e206 79).trans f186
              have f212 : σ205 5 = V (.int .i64 w185) := (congrFun e206 5).trans rfl
              have f213 : σ205 6 = V (.str y195) := (congrFun e206 6).trans rfl
              have f214 : σ205 89 = V (.bool ((decide (w185 > ((0 : Int)))))) := (congrFun e206 89).trans rfl
              obtain ⟨y222, e223, h⟩ := obind h
              refine k_mid (fun σ' hp' _ => hp167 = hp' ∧ σ' 98 = V (.bool y222) ∧ Keep [] 90 98 σ205 σ') ?_ ?_
              · rcases bt ((decide (w185 > ((0 : Int))))) with g215 | g215
                · have h := ctrue e223 g215
                  refine k_yes (f214.trans (cgB g215)) ?_
                  refine k_mov f213 ?_
                  refine k_yes (f214.trans (cgB g215)) ?_
                  refine k_fadrB (o := 2) f208 k171 ?_
                  refine k_yes (f214.trans (cgB g215)) ?_
                  refine k_loadB rfl k171 rfl ?_
                  refine k_yes (f214.trans (cgB g215)) ?_
                  refine k_mov f212 ?_
                  refine k_yes (f214.trans (cgB g215)) ?_
                  refine k_bin rfl rfl rfl ?_
                  refine k_yes (f214.trans (cgB g215)) ?_
                  obtain ⟨y216, e217, h⟩ := obind h
                  refine k_iadrL rfl (sv.any [] _ q4) rfl e217 rfl fun p218 c219 q220 h221 => ?_
                  obtain rfl : c219 = [IV.str y216] := h221
                  refine k_yes (f214.trans (cgB g215)) ?_
                  refine k_loadL rfl q220 rfl ?_
                  refine k_yes (f214.trans (cgB g215)) ?_
                  refine k_bin rfl rfl rfl ?_
                  refine k_pickT (f214.trans (cgB g215)) rfl ?_
                  exact ⟨rfl, cgB (Option.some.inj h), (by repeat (first | exact (Keep.refl _ _ _ _) | refine Keep.upd ?_ rfl _))⟩
                · have h := cfalse e223 g215
                  refine k_no (f214.trans (cgB g215)) rfl ?_
                  refine k_no (f214.trans (cgB g215)) rfl ?_
                  refine k_no (f214.trans (cgB g215)) rfl ?_
                  refine k_no (f214.trans (cgB g215)) rfl ?_
                  refine k_no (f214.trans (cgB g215)) rfl ?_
                  refine k_no (f214.trans (cgB g215)) rfl ?_
                  refine k_no (f214.trans (cgB g215)) rfl ?_
                  refine k_no (f214.trans (cgB g215)) rfl ?_
                  refine k_pickF (f214.trans (cgB g215)) rfl ?_
                  exact ⟨rfl, cgB (Option.some.inj h), (by repeat (first | exact (Keep.refl _ _ _ _) | refine Keep.upd ?_ rfl _))⟩
              rintro σ224 _ _ ⟨rfl, f226, k225⟩
              have f227 : σ224 1 = .v (.c (.r (.ptr 1 g5 0))) := (k225 1 rfl).trans f208
              have f228 : σ224 77 = .v (.c ((I v3))) := (k225 77 rfl).trans f209
              have f229 : σ224 78 = V (.int .i64 ((List.length x0.Inside : Int))) := (k225 78 rfl).trans f210
              have f230 : σ224 79 = V (.int .i64 w185) := (k225 79 rfl).trans f211
              have k231 : Keep [2, 5, 6] 79 99 σ177 σ224 := Keep.trans k207 (Keep.sub k225 rfl)
              refine k_nil ?_
              refine wpE_cond (p := y222) f226 (fun g232 => ?_) (fun g232 => ?_)
              · have h := ctrue h g232
                refine e_reg ?_
                refine k_mov rfl ?_
                refine k_nil ?_
                refine wpE_ret ?_
                obtain rfl := Option.some.inj h
                exact ⟨by decide, rfl, fun _ => e_ret (ct := 0) (.tmp rfl (back_sc rfl) .nil) rfl⟩
              · have h := cfalse h g232
                refine wpE_skip ?_
                show wpE _ _ _ _ _ _ _ _
                refine e_last ?_
                refine k_bin f230 rfl rfl ?_
                refine k_mov rfl ?_
                refine k_nil ?_
                obtain rfl := Option.some.inj h
                exact ⟨rfl, rfl, (by repeat (first | exact k231 | refine Keep.upd ?_ rfl _)), rfl⟩
          · have h := cfalse h g194
            refine wpE_exit ?_
            obtain rfl := Option.some.inj h
            exact ⟨by decide, rfl, (by repeat (first | exact k189 | refine Keep.upd ?_ rfl _)), rfl⟩
        rcases e183 with _ | r1
        rotate_left
        · rintro _ _ _ _ ⟨rfl, hX⟩
          obtain rfl := Option.some.inj h
          exact hX 0
        rintro _ σ233 _ _ ⟨rfl, k235, rfl⟩
        show wpE _ _ _ _ _ _ _ _
        refine e_reg ?_
        refine k_mov rfl ?_
        refine k_nil ?_
        refine wpE_ret ?_
        obtain rfl := Option.some.inj h
        exact e_ret (ct := 0) (.tmp rfl (back_sc rfl) .nil) rfl
/-- hookflash/number.isDigits -/
theorem s146 {x0 : List UInt8} {r : Bool}  (h : F146_number_isDigits x0 = some r) : pc L 146 [.c (I (.str x0))] true (P146 r) := by
  refine fn_pure (fn := ir146) rfl (Nat.le_of_ble_eq_true rfl) fun lent hl => ?_
  unfold F146_number_isDigits at h
  refine e_reg ?_
  refine k_mov rfl ?_
  refine k_nil ?_
  refine e_reg ?_
  refine k_mov rfl ?_
  obtain ⟨y1, e2, h⟩ := obind h
  refine k_call (.cons rfl rfl (.cons rfl rfl .nil)) (s132  e2) (.inl rfl) ?_
  rintro _ rfl
  refine k_bin rfl rfl rfl ?_
  refine k_mov rfl ?_
  obtain ⟨u4, e5, h⟩ := bnd_e h
  refine k_nil ?_
  refine wpE_ret ?_
  obtain rfl := Option.some.inj h
  exact e_ret (ct := 0) (.tmp (cgB e5) (back_sc rfl) .nil) rfl
/-- hookflash/number.digitsOf -/
theorem s111 {x0 : List UInt8} {x1 : Int} {x2 : Int} {r : Bool}  (h : F111_number_digitsOf x0 x1 x2 = some r) : pc L 111 [.c (I (.str x0)), .c (I (.int .i64 x1)), .c (I (.int .i64 x2))] true (P111 r) := by
  refine fn_pure (fn := ir111) rfl (Nat.le_of_ble_eq_true rfl) fun lent hl => ?_
  unfold F111_number_digitsOf at h
  refine e_reg ?_
  refine k_mov rfl ?_
  refine k_nil ?_
  refine e_reg ?_
  refine k_mov rfl ?_
  refine k_lenS rfl ?_
  refine k_mov rfl ?_
  refine k_bin rfl rfl rfl ?_
  refine k_mov rfl ?_
  refine gL fun σ1 e2 => ?_
  have f3 : σ1 0 = V (.str x0) := (congrFun e2 0).trans rfl
  have f4 : σ1 2 = V (.int .i64 x2) := (congrFun e2 2).trans rfl
  have f5 : σ1 11 = V (.bool ((decide (((List.length x0 : Int)) ≥ x1)))) := (congrFun e2 11).trans rfl
  refine k_mid (fun σ' hp' _ => [] = hp' ∧ σ' 16 = V (.bool (((decide (((List.length x0 : Int)) ≥ x1)) && (decide (((List.length x0 : Int)) ≤ x2))))) ∧ Keep [] 12 16 σ1 σ') ?_ ?_
  · rcases bt ((decide (((List.length x0 : Int)) ≥ x1))) with g6 | g6
    · refine k_yes (f5.trans (cgB g6)) ?_
      refine k_mov f3 ?_
      refine k_yes (f5.trans (cgB g6)) ?_
      refine k_lenS rfl ?_
      refine k_yes (f5.trans (cgB g6)) ?_
      refine k_mov f4 ?_
      refine k_yes (f5.trans (cgB g6)) ?_
      refine k_bin rfl rfl rfl ?_
      refine k_pickT (f5.trans (cgB g6)) rfl ?_
      exact ⟨rfl, cgB (by rw [g6]; rfl), (by repeat (first | exact (Keep.refl _ _ _ _) | refine Keep.upd ?_ rfl _))⟩
    · refine k_no (f5.trans (cgB g6)) rfl ?_
      refine k_no (f5.trans (cgB g6)) rfl ?_
      refine k_no (f5.trans (cgB g6)) rfl ?_
      refine k_no (f5.trans (cgB g6)) rfl ?_
      refine k_pickF (f5.trans (cgB g6)) rfl ?_
      exact ⟨rfl, cgB (by rw [g6]; rfl), (by repeat (first | exact (Keep.refl _ _ _ _) | refine Keep.upd ?_ rfl _))⟩
  rintro σ7 _ _ ⟨rfl, f9, k8⟩
  have f10 : σ7 0 = V (.str x0) := (k8 0 rfl).trans f3
  refine k_mov f9 ?_
  refine gL fun σ11 e12 => ?_
  have f13 : σ11 0 = V (.str x0) := (congrFun e12 0).trans f10
  have f14 : σ11 17 = V (.bool (((decide (((List.length x0 : Int)) ≥ x1)) && (decide (((List.length x0 : Int)) ≤ x2))))) := (congrFun e12 17).trans rfl
  obtain ⟨y19, e20, h⟩ := obind h
  refine k_mid (fun σ' hp' _ => [] = hp' ∧ σ' 20 = V (.bool y19) ∧ Keep [] 18 20 σ11 σ') ?_ ?_
  · rcases bt (((decide (((List.length x0 : Int)) ≥ x1)) && (decide (((List.length x0 : Int)) ≤ x2)))) with g15 | g15
    · have h := ctrue e20 g15
      refine k_yes (f14.trans (cgB g15)) ?_
      refine k_mov f13 ?_
      refine k_yes (f14.trans (cgB g15)) ?_
      obtain ⟨y16, e17, h⟩ := obind h
      refine k_call (.cons rfl rfl .nil) (s146  e17) (.inl rfl) ?_
      rintro _ rfl
      refine k_pickT (f14.trans (cgB g15)) rfl ?_
      exact ⟨rfl, cgB (Option.some.inj h), (by repeat (first | exact (Keep.refl _ _ _ _) | refine Keep.upd ?_ rfl _))⟩
    · have h := cfalse e20 g15
      refine k_no (f14.trans (cgB g15)) rfl ?_
      refine k_no (f14.trans (cgB g15)) rfl ?_
      refine k_pickF (f14.trans (cgB g15)) rfl ?_
      exact ⟨rfl, cgB (Option.some.inj h), (by repeat (first | exact (Keep.refl _ _ _ _) | refine Keep.upd ?_ rfl _))⟩
  rintro σ21 _ _ ⟨rfl, f23, k22⟩
  refine k_mov f23 ?_
  refine k_nil ?_
  refine wpE_ret ?_
  obtain rfl := Option.some.inj h
  exact e_ret (ct := 0) (.tmp rfl (back_sc rfl) .nil) rfl
/-- hookflash/number.IsNumber -/
theorem s61 {x0 : List UInt8} {r : Bool}  (h : F61_number_IsNumber x0 = some r) : pc L 61 [.c (I (.str x0))] true (P61 r) := by
  refine fn_pure (fn := ir61) rfl (Nat.le_of_ble_eq_true rfl) fun lent hl => ?_
  unfold F61_number_IsNumber at h
  refine e_reg ?_
  refine k_mov rfl ?_
  refine k_nil ?_
  refine e_reg ?_
  refine k_mov rfl ?_
  obtain ⟨y1, e2, h⟩ := obind h
  refine k_call (.cons rfl rfl (.cons rfl rfl .nil)) (s105  e2) (.inl rfl) ?_
  rintro _ rfl
  refine k_movT rfl ?_
  refine k_ext rfl rfl ?_
  refine k_ext rfl rfl ?_
  refine k_mov rfl ?_
  refine k_mov rfl ?_
  refine k_nil ?_
  refine e_reg ?_
  refine k_mov rfl ?_
  refine k_mov rfl ?_
  refine gL fun σ4 e5 => ?_
  have f6 : σ4 3 = V (.str y1.1) := (congrFun e5 3).trans rfl
  have f7 : σ4 11 = V (.bool y1.2) := (congrFun e5 11).trans rfl
  obtain ⟨y12, e13, h⟩ := obind h
  refine k_mid (fun σ' hp' _ => [] = hp' ∧ σ' 14 = V (.bool y12) ∧ Keep [] 12 14 σ4 σ') ?_ ?_
  · rcases bt y1.2 with g8 | g8
    · have h := ctrue e13 g8
      refine k_yes (f7.trans (cgB g8)) ?_
      refine k_mov f6 ?_
      refine k_yes (f7.trans (cgB g8)) ?_
      obtain ⟨y9, e10, h⟩ := obind h
      refine k_call (.cons rfl rfl (.cons rfl rfl (.cons rfl rfl .nil))) (s111  e10) (.inl rfl) ?_
      rintro _ rfl
      refine k_pickT (f7.trans (cgB g8)) rfl ?_
      exact ⟨rfl, cgB (Option.some.inj h), (by repeat (first | exact (Keep.refl _ _ _ _) | refine Keep.upd ?_ rfl _))⟩
    · have h := cfalse e13 g8
      refine k_no (f7.trans (cgB g8)) rfl ?_
      refine k_no (f7.trans (cgB g8)) rfl ?_
      refine k_pickF (f7.trans (cgB g8)) rfl ?_
      exact ⟨rfl, cgB (Option.some.inj h), (by repeat (first | exact (Keep.refl _ _ _ _) | refine Keep.upd ?_ rfl _))⟩
  rintro σ14 _ _ ⟨rfl, f16, k15⟩
  have f17 : σ14 3 = V (.str y1.1) := (k15 3 rfl).trans f6
  refine k_mov f16 ?_
  refine gL fun σ18 e19 => ?_
  have f20 : σ18 3 = V (.str y1.1) := (congrFun e19 3).trans f17
  have f21 : σ18 15 = V (.bool y12) := (congrFun e19 15).trans rfl
  obtain ⟨y25, e26, h⟩ := obind h
  refine k_mid (fun σ' hp' _ => [] = hp' ∧ σ' 19 = V (.bool y25) ∧ Keep [] 16 19 σ18 σ') ?_ ?_
  · rcases bt y12 with g22 | g22
    · have h := ctrue e26 g22
      refine k_yes (f21.trans (cgB g22)) ?_
      refine k_mov f20 ?_
      refine k_yes (f21.trans (cgB g22)) ?_
      obtain ⟨y23, e24, h⟩ := obind h
      refine k_idxS rfl rfl e24 ?_
      refine k_yes (f21.trans (cgB g22)) ?_
      refine k_bin rfl rfl rfl ?_
      refine k_pickT (f21.trans (cgB g22)) rfl ?_
      exact ⟨rfl, cgB (Option.some.inj h), (by repeat (first | exact (Keep.refl _ _ _ _) | refine Keep.upd ?_ rfl _))⟩
    · have h := cfalse e26 g22
      refine k_no (f21.trans (cgB g22)) rfl ?_
      refine k_no (f21.trans (cgB g22)) rfl ?_
      refine k_no (f21.trans (cgB g22)) rfl ?_
      refine k_pickF (f21.trans (cgB g22)) rfl ?_
      exact ⟨rfl, cgB (Option.some.inj h), (by repeat (first | exact (Keep.refl _ _ _ _) | refine Keep.upd ?_ rfl _))⟩
  rintro σ27 _ _ ⟨rfl, f29, k28⟩
  refine k_mov f29 ?_
  refine k_nil ?_
  refine wpE_ret ?_
  obtain rfl := Option.some.inj h
  exact e_ret (ct := 0) (.tmp rfl (back_sc rfl) .nil) rfl
end Go.Proofs.YtcbepglkfglclaaDoor
