/-
  The small code of functions comes to the Lean functions. Printed by a program of mine.
-/
import Derived.Test.YtcbepglkfglclaaDoorHM8Sa
namespace Go.Proofs.YtcbepglkfglclaaDoor
open Go Go.Abs
set_option maxRecDepth 100000
set_option maxHeartbeats 1000000
/-- hookflash/media.apart -/
theorem s80 {x0 : Int} {x1 : Int} {r : Int}  (h : F80_media_apart x0 x1 = some r) : pc L 80 [.c (I (.int .i64 x0)), .c (I (.int .i64 x1))] true (P80 r) := by
  refine fn_pure (fn := ir80) rfl (Nat.le_of_ble_eq_true rfl) fun lent hl => ?_
  unfold F80_media_apart at h
  refine e_reg ?_
  refine k_mov rfl ?_
  refine k_nil ?_
  refine e_reg ?_
  refine k_mov rfl ?_
  refine k_mov rfl ?_
  refine k_bin rfl rfl rfl ?_
  refine k_bin rfl rfl rfl ?_
  refine k_mov rfl ?_
  obtain ⟨u1, e2, h⟩ := bnd_e h
  refine k_nil ?_
  refine wpE_seq ?_
  refine e_reg ?_
  refine k_mov (cgI e2) ?_
  refine k_bin rfl rfl rfl ?_
  refine k_nil ?_
  refine gE fun σ3 e4 => ?_
  have f5 : σ3 5 = V (.int .i64 u1) := (congrFun e4 5).trans (cgI e2)
  have f6 : σ3 11 = V (.bool ((decide (u1 ≥ ((2147483648 : Int)))))) := (congrFun e4 11).trans rfl
  obtain ⟨y9, h8, h⟩ := obind h
  refine wpE_mono (Q := fun ex σ' hp' _ => ex = .normal ∧ σ' 5 = V (.int .i64 y9) ∧ Keep [] 5 13 σ3 σ' ∧ [] = hp') ?_ ?_
  · clear h; have h := h8
    refine wpE_cond (p := (decide (u1 ≥ ((2147483648 : Int))))) f6 (fun g10 => ?_) (fun g10 => ?_)
    · have h := ctrue h g10
      refine e_last ?_
      refine k_mov f5 ?_
      refine k_bin rfl rfl rfl ?_
      refine k_mov rfl ?_
      obtain ⟨u11, e12, h⟩ := bnd_e h
      refine k_nil ?_
      have q0 := Option.some.inj h
      obtain rfl := q0
      exact ⟨rfl, (cgI e12), (by repeat (first | exact (Keep.refl _ _ _ _) | refine Keep.upd ?_ rfl _)), rfl⟩
    · have h := cfalse h g10
      refine wpE_skip ?_
      have q0 := Option.some.inj h
      obtain rfl := q0
      exact ⟨rfl, f5, (by repeat (first | exact (Keep.refl _ _ _ _) | refine Keep.upd ?_ rfl _)), rfl⟩
  rintro _ σ14 _ _ ⟨rfl, f13, k16, rfl⟩
  show wpE _ _ _ _ _ _ _ _
  refine e_reg ?_
  refine k_mov f13 ?_
  refine k_mov rfl ?_
  refine k_nil ?_
  refine wpE_ret ?_
  obtain rfl := Option.some.inj h
  exact e_ret (ct := 0) (.tmp rfl (back_sc rfl) .nil) rfl
/-- hookflash/media.PlayOut -/
theorem s37 {x0 : List T_api_Arrival} {vx0 : IV} {x1 : Int} {x2 : Int} {r : List Int × Int} (hx0 : sv R_api_Arrival false vx0 x0) (h : F37_media_PlayOut x0 x1 x2 = some r) : pc L 37 [.c (I vx0), .c (I (.int .i64 x1)), .c (I (.int .i64 x2))] true (P37 r) := by
  refine fn_pure (fn := ir37) rfl (Nat.le_of_ble_eq_true rfl) fun lent hl => ?_
  unfold F37_media_PlayOut at h
  refine e_reg ?_
  refine k_mov rfl ?_
  refine k_mov rfl ?_
  refine k_nil ?_
  refine wpE_seq ?_
  refine e_reg ?_
  refine k_mov rfl ?_
  obtain ⟨y1, e2, h⟩ := obind h
  refine k_call (.cons rfl rfl .nil) (s79 (sv_retag hx0) e2) (.inl rfl) ?_
  rintro _ rfl
  refine k_mov rfl ?_
  refine k_nil ?_
  refine e_reg ?_
  refine k_mov rfl ?_
  refine k_bin rfl rfl rfl ?_
  refine k_nil ?_
  refine wpE_cond (p := (y1 != ((0 : Int)))) rfl (fun g4 => ?_) (fun g4 => ?_)
  · have h := ctrue h g4
    refine e_reg ?_
    refine k_mov rfl ?_
    refine k_mov rfl ?_
    refine k_mov rfl ?_
    refine k_nil ?_
    refine wpE_ret ?_
    obtain rfl := Option.some.inj h
    exact e_ret (ct := 0) (.tmp rfl (back_c (backC_inl fun _ => sv_fresh (sv_nil (Rep.int .i64) true))) (.tmp rfl (back_sc rfl) .nil)) ⟨IV.nilS, rfl, (sv_nil (Rep.int .i64) true)⟩
  · have h := cfalse h g4
    refine wpE_skip ?_
    show wpE _ _ _ _ _ _ _ _
    refine wpE_seq ?_
    refine e_reg ?_
    refine k_mov rfl ?_
    obtain ⟨y5, e6, h⟩ := obind h
    refine k_call (.cons rfl rfl (.cons rfl rfl (.cons rfl rfl .nil))) (s74  e6) (.inl rfl) ?_
    rintro _ rfl
    refine k_not rfl ?_
    refine k_mov rfl ?_
    refine gL fun σ8 e9 => ?_
    have f10 : σ8 0 = .v (.c ((I vx0))) := (congrFun e9 0).trans rfl
    have f11 : σ8 1 = V (.int .i64 x1) := (congrFun e9 1).trans rfl
    have f12 : σ8 2 = V (.int .i64 x2) := (congrFun e9 2).trans rfl
    have f13 : σ8 26 = V (.bool (!y5)) := (congrFun e9 26).trans rfl
    obtain ⟨y18, e19, h⟩ := obind h
    refine k_mid (fun σ' hp' _ => [] = hp' ∧ σ' 30 = V (.bool y18) ∧ Keep [] 27 30 σ8 σ') ?_ ?_
    · rcases bt (!y5) with g14 | g14
      · have h := ctrue e19 g14
        refine k_no (f13.trans (cgB g14)) rfl ?_
        refine k_no (f13.trans (cgB g14)) rfl ?_
        refine k_no (f13.trans (cgB g14)) rfl ?_
        refine k_pickT (f13.trans (cgB g14)) rfl ?_
        exact ⟨rfl, cgB (Option.some.inj h), (by repeat (first | exact (Keep.refl _ _ _ _) | refine Keep.upd ?_ rfl _))⟩
      · have h := cfalse e19 g14
        refine k_yes (f13.trans (cgB g14)) ?_
        refine k_mov f12 ?_
        refine k_yes (f13.trans (cgB g14)) ?_
        obtain ⟨y15, e16, h⟩ := obind h
        refine k_call (.cons rfl rfl (.cons rfl rfl (.cons rfl rfl .nil))) (s74  e16) (.inl rfl) ?_
        rintro _ rfl
        refine k_yes (f13.trans (cgB g14)) ?_
        refine k_not rfl ?_
        refine k_pickF (f13.trans (cgB g14)) rfl ?_
        exact ⟨rfl, cgB (Option.some.inj h), (by repeat (first | exact (Keep.refl _ _ _ _) | refine Keep.upd ?_ rfl _))⟩
    rintro σ20 _ _ ⟨rfl, f22, k21⟩
    have f23 : σ20 0 = .v (.c ((I vx0))) := (k21 0 rfl).trans f10
    have f24 : σ20 1 = V (.int .i64 x1) := (k21 1 rfl).trans f11
    have f25 : σ20 2 = V (.int .i64 x2) := (k21 2 rfl).trans f12
    refine k_nil ?_
    refine wpE_cond (p := y18) f22 (fun g26 => ?_) (fun g26 => ?_)
    · have h := ctrue h g26
      refine e_reg ?_
      refine k_mov rfl ?_
      refine k_mov rfl ?_
      refine k_nil ?_
      refine wpE_ret ?_
      obtain rfl := Option.some.inj h
      exact e_ret (ct := 0) (.tmp rfl (back_c (backC_inl fun _ => sv_fresh (sv_nil (Rep.int .i64) true))) (.tmp rfl (back_sc rfl) .nil)) ⟨IV.nilS, rfl, (sv_nil (Rep.int .i64) true)⟩
    · have h := cfalse h g26
      refine wpE_skip ?_
      show wpE _ _ _ _ _ _ _ _
      refine e_reg ?_
      refine k_mov f25 ?_
      refine k_bin rfl rfl rfl ?_
      obtain ⟨y27, e28, h⟩ := obind h
      refine k_mksl (E := (Rep.int .i64)) (f := true) rfl rfl e28 (rfl) rfl fun a29 hp30 o31 r32 => ?_
      refine k_mov rfl ?_
      refine k_nil ?_
      refine e_reg ?_
      refine k_mov rfl ?_
      refine k_len rfl o31.any ?_
      obtain ⟨y33, e34, h⟩ := obind h
      refine k_mksl (E := Rep.bool) (f := true) rfl rfl e34 (rfl) rfl fun a35 hp36 o37 r38 => ?_
      have o39 := o31.fr r38 rfl
      refine k_mov rfl ?_
      refine k_nil ?_
      refine wpE_seq ?_
      refine e_reg ?_
      refine k_mov f23 ?_
      refine k_len rfl (sv.any [] _ hx0) ?_
      refine k_mov rfl ?_
      refine k_nil ?_
      refine wpE_block ?_
      refine gE fun σ40 e41 => ?_
      have f42 : σ40 0 = .v (.c ((I vx0))) := (congrFun e41 0).trans f23
      have f43 : σ40 1 = V (.int .i64 x1) := (congrFun e41 1).trans f24
      have f44 : σ40 9 = .v (.c a29) := (congrFun e41 9).trans rfl
      have f45 : σ40 10 = .v (.c a35) := (congrFun e41 10).trans rfl
      have f46 : σ40 37 = .v (.c ((I vx0))) := (congrFun e41 37).trans rfl
      have f47 : σ40 38 = V (.int .i64 ((List.length x0 : Int))) := (congrFun e41 38).trans rfl
      have f48 : σ40 39 = V (.int .i64 ((0 : Int))) := (congrFun e41 39).trans rfl
      obtain ⟨e49, h50, h⟩ := obind h
      refine wpE_mono (e_loop h50 (I := fun s σ' hp' _ => (∃ a, σ' 9 = .v (.c a) ∧ so [33] (Rep.int .i64) true hp' a s.1) ∧ (∃ a, σ' 10 = .v (.c a) ∧ so [36] Rep.bool true hp' a s.2.1) ∧ σ' 39 = V (.int .i64 s.2.2) ∧ Keep [12, 13, 14, 15, 16] 39 100 σ40 σ' ∧ Fr [12, 33, 36] hp36 hp') (X := fun e ex σ' hp' _ => ex = .exit 0 ∧ (∃ a, σ' 9 = .v (.c a) ∧ so [33] (Rep.int .i64) true hp' a e.1) ∧ (∃ a, σ' 10 = .v (.c a) ∧ so [36] Rep.bool true hp' a e.2) ∧ Keep [12, 13, 14, 15, 16] 39 100 σ40 σ' ∧ Fr [12, 33, 36] hp36 hp') ⟨⟨_, f44, ((o39).wide rfl)⟩, ⟨_, f45, ((o37).wide rfl)⟩, f48, Keep.refl _ _ _ _, Fr.refl _ _⟩ ?_) ?_
      · clear h
        rintro ⟨s51, s52, s53⟩ o σ61 hp62 _ h ⟨⟨a54, f55, o56⟩, ⟨a57, f58, o59⟩, f60, k63, r64⟩
        have h : F37_media_PlayOut_l0 x0 x1 s51 s52 s53 = some o := h; unfold F37_media_PlayOut_l0 at h
        have f65 : σ61 0 = .v (.c ((I vx0))) := (k63 0 rfl).trans f42
        have f66 : σ61 1 = V (.int .i64 x1) := (k63 1 rfl).trans f43
        have f67 : σ61 37 = .v (.c ((I vx0))) := (k63 37 rfl).trans f46
        have f68 : σ61 38 = V (.int .i64 ((List.length x0 : Int))) := (k63 38 rfl).trans f47
        show wpE _ _ _ _ _ _ _ _
        refine e_reg ?_
        refine k_bin f60 f68 rfl ?_
        refine k_nil ?_
        refine wpE_seq ?_
        refine wpE_cond (p := (decide (s53 < ((List.length x0 : Int))))) rfl (fun g69 => ?_) (fun g69 => ?_)
        · have h := ctrue h g69
          refine wpE_skip ?_
          show wpE _ _ _ _ _ _ _ _
          refine wpE_seq ?_
          refine wpE_block ?_
          refine e_reg ?_
          obtain ⟨y70, e71, h⟩ := obind h
          refine k_iadrL f67 (sv.any [] _ hx0) f60 e71 rfl fun p72 c73 q74 h75 => ?_
          obtain ⟨v76, rfl, q77⟩ := R_api_Arrival.inv h75
          refine k_loadL rfl q74 rfl ?_
          refine k_alloc fun g78 hp79 k80 r81 => ?_
          have r82 : Fr [12, 33, 36] hp36 hp79 := Fr.ext r64 r81 rfl
          have o83 := o56.fr r81 rfl
          have o84 := o59.fr r81 rfl
          refine k_storeB rfl rfl k80 rfl fun hp85 k86 r87 => ?_
          have r88 : Fr [12, 33, 36] hp36 hp85 := Fr.ext r82 r87 rfl
          have o89 := o83.fr r87 rfl
          have o90 := o84.fr r87 rfl
          refine k_nil ?_
          refine e_regD (by kernel_rfl) (by kernel_rfl) ?_
          refine k_fadrB (o := 1) rfl k86 ?_
          refine k_fadrB (o := 2) rfl k86 ?_
          refine k_loadB rfl k86 rfl ?_
          refine k_mov f65 ?_
          obtain ⟨y91, e92, h⟩ := obind h
          refine k_iadrL rfl (sv.any [] _ hx0) rfl e92 rfl fun p93 c94 q95 h96 => ?_
          obtain ⟨v97, rfl, q98⟩ := R_api_Arrival.inv h96
          refine k_fadrL (o := 1) rfl q95 (Nat.le_of_ble_eq_true rfl) fun p99 q100 => ?_
          refine k_fadrL (o := 2) rfl q100 (Nat.le_of_ble_eq_true rfl) fun p101 q102 => ?_
          refine k_loadL rfl q102 rfl ?_
          obtain ⟨y103, e104, h⟩ := obind h
          refine k_call (.cons rfl rfl (.cons rfl rfl .nil)) (s80  e104) (.inl rfl) ?_
          rintro _ rfl
          refine k_mov rfl ?_
          refine k_nil ?_
          refine wpE_seq ?_
          refine e_regD (by kernel_rfl) (by kernel_rfl) ?_
          refine k_fadrB (o := 0) rfl k86 ?_
          refine k_loadB rfl k86 rfl ?_
          refine k_mov f65 ?_
          obtain ⟨y106, e107, h⟩ := obind h
          refine k_iadrL rfl (sv.any [] _ hx0) rfl e107 rfl fun p108 c109 q110 h111 => ?_
          obtain ⟨v112, rfl, q113⟩ := R_api_Arrival.inv h111
          refine k_fadrL (o := 0) rfl q110 (Nat.le_of_ble_eq_true rfl) fun p114 q115 => ?_
          refine k_loadL rfl q115 rfl ?_
          refine k_mov f66 ?_
          refine k_bin rfl rfl rfl ?_
          refine k_mov rfl ?_
          refine k_bin rfl rfl rfl ?_
          refine k_bin rfl rfl rfl ?_
          refine k_bin rfl rfl rfl ?_
          refine k_nil ?_
          refine wpE_cond (p := (decide (y70.At > ((IntKind.wrap .i64 (((IntKind.wrap .i64 (y106.At + x1))) + ((Int.fdiv y103 (2 ^ 3))))))))) rfl (fun g116 => ?_) (fun g116 => ?_)
          · have h := ctrue h g116
            refine wpE_exit ?_
            show wpE _ _ _ _ _ _ _ _
            refine e_last ?_
            refine k_bin f60 rfl rfl ?_
            refine k_mov rfl ?_
            refine k_nil ?_
            obtain rfl := Option.some.inj h
            exact ⟨rfl, ⟨_, f55, ((o89).wide rfl)⟩, ⟨_, f58, ((o90).wide rfl)⟩, rfl, (by repeat (first | exact k63 | refine Keep.upd ?_ rfl _)), r88⟩
          · have h := cfalse h g116
            refine wpE_skip ?_
            show wpE _ _ _ _ _ _ _ _
            refine e_reg ?_
            refine k_fadrB (o := 1) rfl k86 ?_
            refine k_fadrB (o := 5) rfl k86 ?_
            refine k_loadB rfl k86 rfl ?_
            refine k_len rfl (sv.any [] _ q77) ?_
            refine k_mov rfl ?_
            refine k_nil ?_
            refine wpE_block ?_
            refine gE fun σ117 e118 => ?_
            have k119 : Keep [12, 13, 14, 15, 16] 39 100 σ40 σ117 := by rw [e118]; repeat (first | exact k63 | refine Keep.upd ?_ rfl _)
            have f120 : σ117 0 = .v (.c ((I vx0))) := (congrFun e118 0).trans f65
            have f121 : σ117 1 = V (.int .i64 x1) := (congrFun e118 1).trans f66
            have f122 : σ117 9 = .v (.c a54) := (congrFun e118 9).trans f55
            have f123 : σ117 10 = .v (.c a57) := (congrFun e118 10).trans f58
            have f124 : σ117 37 = .v (.c ((I vx0))) := (congrFun e118 37).trans f67
            have f125 : σ117 38 = V (.int .i64 ((List.length x0 : Int))) := (congrFun e118 38).trans f68
            have f126 : σ117 39 = V (.int .i64 s53) := (congrFun e118 39).trans f60
            have f127 : σ117 13 = V (.int .i64 y103) := (congrFun e118 13).trans rfl
            have f128 : σ117 66 = .v (.c ((I v76))) := (congrFun e118 66).trans rfl
            have f129 : σ117 67 = V (.int .i64 ((List.length y70.Packet.Payload : Int))) := (congrFun e118 67).trans rfl
            have f130 : σ117 68 = V (.int .i64 ((0 : Int))) := (congrFun e118 68).trans rfl
            obtain ⟨e131, h132, h⟩ := obind h
            refine wpE_mono (e_loop h132 (I := fun s σ' hp' _ => (∃ a, σ' 9 = .v (.c a) ∧ so [33] (Rep.int .i64) true hp' a s.1) ∧ (∃ a, σ' 10 = .v (.c a) ∧ so [36] Rep.bool true hp' a s.2.1) ∧ σ' 68 = V (.int .i64 s.2.2) ∧ Keep [14, 15, 16] 68 99 σ117 σ' ∧ Fr [33, 36] hp85 hp') (X := fun e ex σ' hp' _ => ex = .exit 2 ∧ (∃ a, σ' 9 = .v (.c a) ∧ so [33] (Rep.int .i64) true hp' a e.1) ∧ (∃ a, σ' 10 = .v (.c a) ∧ so [36] Rep.bool true hp' a e.2) ∧ Keep [14, 15, 16] 68 99 σ117 σ' ∧ Fr [33, 36] hp85 hp') ⟨⟨_, f122, ((o89).wide rfl)⟩, ⟨_, f123, ((o90).wide rfl)⟩, f130, Keep.refl _ _ _ _, Fr.refl _ _⟩ ?_) ?_
            · clear h
              rintro ⟨s133, s134, s135⟩ o σ143 hp144 _ h ⟨⟨a136, f137, o138⟩, ⟨a139, f140, o141⟩, f142, k145, r146⟩
              have h : F37_media_PlayOut_l1 y70 y103 s133 s134 s135 = some o := h; unfold F37_media_PlayOut_l1 at h
              have f147 : σ143 0 = .v (.c ((I vx0))) := (k145 0 rfl).trans f120
              have f148 : σ143 1 = V (.int .i64 x1) := (k145 1 rfl).trans f121
              have f149 : σ143 37 = .v (.c ((I vx0))) := (k145 37 rfl).trans f124
              have f150 : σ143 38 = V (.int .i64 ((List.length x0 : Int))) := (k145 38 rfl).trans f125
              have f151 : σ143 39 = V (.int .i64 s53) := (k145 39 rfl).trans f126
              have f152 : σ143 13 = V (.int .i64 y103) := (k145 13 rfl).trans f127
              have f153 : σ143 66 = .v (.c ((I v76))) := (k145 66 rfl).trans f128
              have f154 : σ143 67 = V (.int .i64 ((List.length y70.Packet.Payload : Int))) := (k145 67 rfl).trans f129
              have k155 : Keep [12, 13, 14, 15, 16] 39 100 σ40 σ143 := Keep.trans k119 (Keep.sub k145 rfl)
              have r156 : Fr [12, 33, 36] hp36 hp144 := Fr.ext r88 r146 rfl
              show wpE _ _ _ _ _ _ _ _
              refine e_reg ?_
              refine k_bin f142 f154 rfl ?_
              refine k_nil ?_
              refine wpE_seq ?_
              refine wpE_cond (p := (decide (s135 < ((List.length y70.Packet.Payload : Int))))) rfl (fun g157 => ?_) (fun g157 => ?_)
              · have h := ctrue h g157
                refine wpE_skip ?_
                show wpE _ _ _ _ _ _ _ _
                refine wpE_seq ?_
                refine wpE_block ?_
                refine e_reg ?_
                refine k_mov f142 ?_
                obtain ⟨y158, e159, h⟩ := obind h
                refine k_iadrL f153 (sv.any [] _ q77) f142 e159 rfl fun p160 c161 q162 h163 => ?_
                obtain rfl : c161 = [IV.int .u8 y158] := h163
                refine k_loadL rfl q162 rfl ?_
                refine k_mov rfl ?_
                refine k_mov rfl ?_
                refine k_nil ?_
                refine e_reg ?_
                refine k_mov f152 ?_
                refine k_mov rfl ?_
                refine k_bin rfl rfl rfl ?_
                refine k_mov rfl ?_
                obtain ⟨u164, e165, h⟩ := bnd_e h
                refine k_nil ?_
                refine e_reg ?_
                refine k_mov (cgI e165) ?_
                refine k_bin rfl rfl rfl ?_
                refine k_mov rfl ?_
                refine gL fun σ166 e167 => ?_
                have k168 : Keep [12, 13, 14, 15, 16] 39 100 σ40 σ166 := by rw [e167]; repeat (first | exact k155 | refine Keep.upd ?_ rfl _)
                have k169 : Keep [14, 15, 16] 68 99 σ117 σ166 := by rw [e167]; repeat (first | exact k145 | refine Keep.upd ?_ rfl _)
                have f170 : σ166 0 = .v (.c ((I vx0))) := (congrFun e167 0).trans f147
                have f171 : σ166 1 = V (.int .i64 x1) := (congrFun e167 1).trans f148
                have f172 : σ166 9 = .v (.c a136) := (congrFun e167 9).trans f137
                have f173 : σ166 10 = .v (.c a139) := (congrFun e167 10).trans f140
                have f174 : σ166 37 = .v (.c ((I vx0))) := (congrFun e167 37).trans f149
                have f175 : σ166 38 = V (.int .i64 ((List.length x0 : Int))) := (congrFun e167 38).trans f150
                have f176 : σ166 39 = V (.int .i64 s53) := (congrFun e167 39).trans f151
                have f177 : σ166 13 = V (.int .i64 y103) := (congrFun e167 13).trans f152
                have f178 : σ166 66 = .v (.c ((I v76))) := (congrFun e167 66).trans f153
                have f179 : σ166 67 = V (.int .i64 ((List.length y70.Packet.Payload : Int))) := (congrFun e167 67).trans f154
                have f180 : σ166 68 = V (.int .i64 s135) := (congrFun e167 68).trans f142
                have f181 : σ166 15 = V (.int .u8 y158) := (congrFun e167 15).trans rfl
                have f182 : σ166 16 = V (.int .i64 u164) := (congrFun e167 16).trans (cgI e165)
                have f183 : σ166 78 = V (.bool ((decide (u164 ≥ ((0 : Int)))))) := (congrFun e167 78).trans rfl
                refine k_mid (fun σ' hp' _ => hp144 = hp' ∧ σ' 83 = V (.bool (((decide (u164 ≥ ((0 : Int)))) && (decide (u164 < ((List.length s133 : Int))))))) ∧ Keep [] 79 83 σ166 σ') ?_ ?_
                · rcases bt ((decide (u164 ≥ ((0 : Int))))) with g184 | g184
                  · refine k_yes (f183.trans (cgB g184)) ?_
                    refine k_mov f182 ?_
                    refine k_yes (f183.trans (cgB g184)) ?_
                    refine k_mov f172 ?_
                    refine k_yes (f183.trans (cgB g184)) ?_
                    refine k_len rfl o138.any ?_
                    refine k_yes (f183.trans (cgB g184)) ?_
                    refine k_bin rfl rfl rfl ?_
                    refine k_pickT (f183.trans (cgB g184)) rfl ?_
                    exact ⟨rfl, cgB (by rw [g184]; rfl), (by repeat (first | exact (Keep.refl _ _ _ _) | refine Keep.upd ?_ rfl _))⟩
                  · refine k_no (f183.trans (cgB g184)) rfl ?_
                    refine k_no (f183.trans (cgB g184)) rfl ?_
                    refine k_no (f183.trans (cgB g184)) rfl ?_
                    refine k_no (f183.trans (cgB g184)) rfl ?_
                    refine k_pickF (f183.trans (cgB g184)) rfl ?_
                    exact ⟨rfl, cgB (by rw [g184]; rfl), (by repeat (first | exact (Keep.refl _ _ _ _) | refine Keep.upd ?_ rfl _))⟩
                rintro σ185 _ _ ⟨rfl, f187, k186⟩
                have f188 : σ185 0 = .v (.c ((I vx0))) := (k186 0 rfl).trans f170
                have f189 : σ185 1 = V (.int .i64 x1) := (k186 1 rfl).trans f171
                have f190 : σ185 9 = .v (.c a136) := (k186 9 rfl).trans f172
                have f191 : σ185 10 = .v (.c a139) := (k186 10 rfl).trans f173
                have f192 : σ185 37 = .v (.c ((I vx0))) := (k186 37 rfl).trans f174
                have f193 : σ185 38 = V (.int .i64 ((List.length x0 : Int))) := (k186 38 rfl).trans f175
                have f194 : σ185 39 = V (.int .i64 s53) := (k186 39 rfl).trans f176
                have f195 : σ185 13 = V (.int .i64 y103) := (k186 13 rfl).trans f177
                have f196 : σ185 66 = .v (.c ((I v76))) := (k186 66 rfl).trans f178
                have f197 : σ185 67 = V (.int .i64 ((List.length y70.Packet.Payload : Int))) := (k186 67 rfl).trans f179
                have f198 : σ185 68 = V (.int .i64 s135) := (k186 68 rfl).trans f180
                have f199 : σ185 15 = V (.int .u8 y158) := (k186 15 rfl).trans f181
                have f200 : σ185 16 = V (.int .i64 u164) := (k186 16 rfl).trans f182
                have k201 : Keep [12, 13, 14, 15, 16] 39 100 σ40 σ185 := Keep.trans k168 (Keep.sub k186 rfl)
                have k202 : Keep [14, 15, 16] 68 99 σ117 σ185 := Keep.trans k169 (Keep.sub k186 rfl)
                refine k_mov f187 ?_
                refine gL fun σ203 e204 => ?_
                have k205 : Keep [12, 13, 14, 15, 16] 39 100 σ40 σ203 := by rw [e204]; repeat (first | exact k201 | refine Keep.upd ?_ rfl _)
                have k206 : Keep [14, 15, 16] 68 99 σ117 σ203 := by rw [e204]; repeat (first | exact k202 | refine Keep.upd ?_ rfl _)
                have f207 : σ203 0 = .v (.c ((I vx0))) := (congrFun e204 0).trans f188
                have f208 : σ203 1 = V (.int .i64 x1) := (congrFun e204 1).trans f189
                have f209 : σ203 9 = .v (.c a136) := (congrFun e204 9).trans f190
                have f210 : σ203 10 = .v (.c a139) := (congrFun e204 10).trans f191
                have f211 : σ203 37 = .v (.c ((I vx0))) := (congrFun e204 37).trans f192
                have f212 : σ203 38 = V (.int .i64 ((List.length x0 : Int))) := (congrFun e204 38).trans f193
                have f213 : σ203 39 = V (.int .i64 s53) := (congrFun e204 39).trans f194
                have f214 : σ203 13 = V (.int .i64 y103) := (congrFun e204 13).trans f195
                have f215 : σ203 66 = .v (.c ((I v76))) := (congrFun e204 66).trans f196
                have f216 : σ203 67 = V (.int .i64 ((List.length y70.Packet.Payload : Int))) := (congrFun e204 67).trans f197
                have f217 : σ203 68 = V (.int .i64 s135) := (congrFun e204 68).trans f198
                have f218 : σ203 15 = V (.int .u8 y158) := (congrFun e204 15).trans f199
                have f219 : σ203 16 = V (.int .i64 u164) := (congrFun e204 16).trans f200
                have f220 : σ203 84 = V (.bool (((decide (u164 ≥ ((0 : Int)))) && (decide (u164 < ((List.length s133 : Int))))))) := (congrFun e204 84).trans rfl
                obtain ⟨y228, e229, h⟩ := obind h
                refine k_mid (fun σ' hp' _ => hp144 = hp' ∧ σ' 90 = V (.bool y228) ∧ Keep [] 85 90 σ203 σ') ?_ ?_
                · rcases bt (((decide (u164 ≥ ((0 : Int)))) && (decide (u164 < ((List.length s133 : Int)))))) with g221 | g221
                  · have h := ctrue e229 g221
                    refine k_yes (f220.trans (cgB g221)) ?_
                    refine k_mov f210 ?_
                    refine k_yes (f220.trans (cgB g221)) ?_
                    refine k_mov f219 ?_
                    refine k_yes (f220.trans (cgB g221)) ?_
                    obtain ⟨y222, e223, h⟩ := obind h
                    refine k_iadrL rfl o141.any rfl e223 rfl fun p224 c225 q226 h227 => ?_
                    obtain rfl : c225 = [IV.bool y222] := h227
                    refine k_yes (f220.trans (cgB g221)) ?_
                    refine k_loadL rfl q226 rfl ?_
                    refine k_yes (f220.trans (cgB g221)) ?_
                    refine k_not rfl ?_
                    refine k_pickT (f220.trans (cgB g221)) rfl ?_
                    exact ⟨rfl, cgB (Option.some.inj h), (by repeat (first | exact (Keep.refl _ _ _ _) | refine Keep.upd ?_ rfl _))⟩
                  · have h := cfalse e229 g221
                    refine k_no (f220.trans (cgB g221)) rfl ?_
                    refine k_no (f220.trans (cgB g221)) rfl ?_
                    refine k_no (f220.trans (cgB g221)) rfl ?_
                    refine k_no (f220.trans (cgB g221)) rfl ?_
                    refine k_no (f220.trans (cgB g221)) rfl ?_
                    refine k_pickF (f220.trans (cgB g221)) rfl ?_
                    exact ⟨rfl, cgB (Option.some.inj h), (by repeat (first | exact (Keep.refl _ _ _ _) | refine Keep.upd ?_ rfl _))⟩
                rintro σ230 _ _ ⟨rfl, f232, k231⟩
                have f233 : σ230 0 = .v (.c ((I vx0))) := (k231 0 rfl).trans f207
                have f234 : σ230 1 = V (.int .i64 x1) := (k231 1 rfl).trans f208
                have f235 : σ230 9 = .v (.c a136) := (k231 9 rfl).trans f209
                have f236 : σ230 10 = .v (.c a139) := (k231 10 rfl).trans f210
                have f237 : σ230 37 = .v (.c ((I vx0))) := (k231 37 rfl).trans f211
                have f238 : σ230 38 = V (.int .i64 ((List.length x0 : Int))) := (k231 38 rfl).trans f212
                have f239 : σ230 39 = V (.int .i64 s53) := (k231 39 rfl).trans f213
                have f240 : σ230 13 = V (.int .i64 y103) := (k231 13 rfl).trans f214
                have f241 : σ230 66 = .v (.c ((I v76))) := (k231 66 rfl).trans f215
                have f242 : σ230 67 = V (.int .i64 ((List.length y70.Packet.Payload : Int))) := (k231 67 rfl).trans f216
                have f243 : σ230 68 = V (.int .i64 s135) := (k231 68 rfl).trans f217
                have f244 : σ230 15 = V (.int .u8 y158) := (k231 15 rfl).trans f218
                have f245 : σ230 16 = V (.int .i64 u164) := (k231 16 rfl).trans f219
                have k246 : Keep [12, 13, 14, 15, 16] 39 100 σ40 σ230 := Keep.trans k205 (Keep.sub k231 rfl)
                have k247 : Keep [14, 15, 16] 68 99 σ117 σ230 := Keep.trans k206 (Keep.sub k231 rfl)
                refine k_nil ?_
                refine wpE_cond (p := y228) f232 (fun g248 => ?_) (fun g248 => ?_)
                · have h := ctrue h g248
                  refine e_last ?_
                  refine k_mov f235 ?_
                  refine k_mov f245 ?_
                  refine k_mov f236 ?_
                  refine k_mov f245 ?_
                  refine k_mov f244 ?_
                  obtain ⟨y249, e250, h⟩ := obind h
                  refine k_call (.cons rfl rfl .nil) (s26  e250) (.inl rfl) ?_
                  rintro _ rfl
                  obtain ⟨y252, e253, h⟩ := obind h
                  refine k_iadrO (sz := 1) rfl o138 rfl (idx_in e253) rfl fun p254 q255 => ?_
                  refine k_storeO (ws := [IV.int .i64 y249]) (o := 0) (sz := 1) (u' := y249) rfl q255 rfl rfl rfl e253 (by decide) rfl (fun _ hc => stoAll hc rfl) fun hp256 k257 r258 => ?_
                  obtain ⟨l259, e260, h⟩ := bnd_e h
                  have o261 := e260 ▸ k257
                  have r262 : Fr [12, 33, 36] hp36 hp256 := Fr.ext r156 r258 rfl
                  have r263 : Fr [33, 36] hp85 hp256 := Fr.ext r146 r258 rfl
                  have o264 := o141.fr r258 rfl
                  obtain ⟨y265, e266, h⟩ := obind h
                  refine k_iadrO (sz := 1) rfl o264 rfl (idx_in e266) rfl fun p267 q268 => ?_
                  refine k_storeO (ws := [IV.bool true]) (o := 0) (sz := 1) (u' := true) rfl q268 rfl rfl rfl e266 (by decide) rfl (fun _ hc => stoAll hc rfl) fun hp269 k270 r271 => ?_
                  obtain ⟨l272, e273, h⟩ := bnd_e h
                  have o274 := e273 ▸ k270
                  have r275 : Fr [12, 33, 36] hp36 hp269 := Fr.ext r262 r271 rfl
                  have r276 : Fr [33, 36] hp85 hp269 := Fr.ext r263 r271 rfl
                  have o277 := o261.fr r271 rfl
                  refine k_nil ?_
                  show wpE _ _ _ _ _ _ _ _
                  refine e_last ?_
                  refine k_bin f243 rfl rfl ?_
                  refine k_mov rfl ?_
                  refine k_nil ?_
                  obtain rfl := Option.some.inj h
                  exact ⟨rfl, ⟨_, f235, ((o277).wide rfl)⟩, ⟨_, f236, ((o274).wide rfl)⟩, rfl, (by repeat (first | exact k247 | refine Keep.upd ?_ rfl _)), r276⟩
                · have h := cfalse h g248
                  refine wpE_skip ?_
                  show wpE _ _ _ _ _ _ _ _
                  refine e_last ?_
                  refine k_bin f243 rfl rfl ?_
                  refine k_mov rfl ?_
                  refine k_nil ?_
                  obtain rfl := Option.some.inj h
                  exact ⟨rfl, ⟨_, f235, ((o138).wide rfl)⟩, ⟨_, f236, ((o141).wide rfl)⟩, rfl, (by repeat (first | exact k247 | refine Keep.upd ?_ rfl _)), r146⟩
              · have h := cfalse h g157
                refine wpE_exit ?_
                obtain rfl := Option.some.inj h
                exact ⟨by decide, rfl, ⟨_, f137, ((o138).wide rfl)⟩, ⟨_, f140, ((o141).wide rfl)⟩, (by repeat (first | exact k145 | refine Keep.upd ?_ rfl _)), r146⟩
            obtain ⟨y278, y279⟩ := e131
            rintro _ σ280 hp281 _ ⟨rfl, ⟨a284, f285, o286⟩, ⟨a287, f288, o289⟩, k282, r283⟩
            have f290 : σ280 0 = .v (.c ((I vx0))) := (k282 0 rfl).trans f120
            have f291 : σ280 1 = V (.int .i64 x1) := (k282 1 rfl).trans f121
            have f292 : σ280 37 = .v (.c ((I vx0))) := (k282 37 rfl).trans f124
            have f293 : σ280 38 = V (.int .i64 ((List.length x0 : Int))) := (k282 38 rfl).trans f125
            have f294 : σ280 39 = V (.int .i64 s53) := (k282 39 rfl).trans f126
            have k295 : Keep [12, 13, 14, 15, 16] 39 100 σ40 σ280 := Keep.trans k119 (Keep.sub k282 rfl)
            have r296 : Fr [12, 33, 36] hp36 hp281 := Fr.ext r88 r283 rfl
            show wpE _ _ _ _ _ _ _ _
            refine e_last ?_
            refine k_bin f294 rfl rfl ?_
            refine k_mov rfl ?_
            refine k_nil ?_
            obtain rfl := Option.some.inj h
            exact ⟨rfl, ⟨_, f285, ((o286).wide rfl)⟩, ⟨_, f288, ((o289).wide rfl)⟩, rfl, (by repeat (first | exact k295 | refine Keep.upd ?_ rfl _)), r296⟩
        · have h := cfalse h g69
          refine wpE_exit ?_
          obtain rfl := Option.some.inj h
          exact ⟨by decide, rfl, ⟨_, f55, ((o56).wide rfl)⟩, ⟨_, f58, ((o59).wide rfl)⟩, (by repeat (first | exact k63 | refine Keep.upd ?_ rfl _)), r64⟩
      obtain ⟨y297, y298⟩ := e49
      rintro _ σ299 hp300 _ ⟨rfl, ⟨a303, f304, o305⟩, ⟨a306, f307, o308⟩, k301, r302⟩
      show wpE _ _ _ _ _ _ _ _
      refine wpE_seq ?_
      refine e_reg ?_
      refine k_mov f304 ?_
      refine k_len rfl o305.any ?_
      refine k_mov rfl ?_
      refine k_nil ?_
      refine wpE_block ?_
      refine gE fun σ309 e310 => ?_
      have f311 : σ309 9 = .v (.c a303) := (congrFun e310 9).trans f304
      have f312 : σ309 10 = .v (.c a306) := (congrFun e310 10).trans f307
      have f313 : σ309 102 = V (.int .i64 ((List.length y297 : Int))) := (congrFun e310 102).trans rfl
      have f314 : σ309 103 = V (.int .i64 ((0 : Int))) := (congrFun e310 103).trans rfl
      obtain ⟨y375, h316, h⟩ := obind h
      refine wpE_mono (e_loop h316 (I := fun s σ' hp' _ => (∃ a, σ' 9 = .v (.c a) ∧ so [33] (Rep.int .i64) true hp' a s.1) ∧ σ' 103 = V (.int .i64 s.2) ∧ Keep [17] 103 124 σ309 σ' ∧ Fr [33] hp300 hp') (X := fun e ex σ' hp' _ => ex = .exit 4 ∧ (∃ a, σ' 9 = .v (.c a) ∧ so [33] (Rep.int .i64) true hp' a e) ∧ Keep [17] 103 124 σ309 σ' ∧ Fr [33] hp300 hp') ⟨⟨_, f311, ((o305).wide rfl)⟩, f314, Keep.refl _ _ _ _, Fr.refl _ _⟩ ?_) ?_
      · clear h
        rintro ⟨s317, s318⟩ o σ323 hp324 _ h ⟨⟨a319, f320, o321⟩, f322, k325, r326⟩
        have h : F37_media_PlayOut_l2 y297 y298 s317 s318 = some o := h; unfold F37_media_PlayOut_l2 at h
        have f327 : σ323 10 = .v (.c a306) := (k325 10 rfl).trans f312
        have f328 : σ323 102 = V (.int .i64 ((List.length y297 : Int))) := (k325 102 rfl).trans f313
        have o329 := o308.fr r326 rfl
        show wpE _ _ _ _ _ _ _ _
        refine e_reg ?_
        refine k_bin f322 f328 rfl ?_
        refine k_nil ?_
        refine wpE_seq ?_
        refine wpE_cond (p := (decide (s318 < ((List.length y297 : Int))))) rfl (fun g330 => ?_) (fun g330 => ?_)
        · have h := ctrue h g330
          refine wpE_skip ?_
          show wpE _ _ _ _ _ _ _ _
          refine wpE_seq ?_
          refine wpE_block ?_
          refine e_reg ?_
          refine k_mov f322 ?_
          refine k_mov rfl ?_
          refine k_nil ?_
          refine e_reg ?_
          refine k_mov f327 ?_
          refine k_mov rfl ?_
          obtain ⟨y331, e332, h⟩ := obind h
          refine k_iadrL rfl o329.any rfl e332 rfl fun p333 c334 q335 h336 => ?_
          obtain rfl : c334 = [IV.bool y331] := h336
          refine k_loadL rfl q335 rfl ?_
          refine k_not rfl ?_
          refine k_mov rfl ?_
          refine gL fun σ337 e338 => ?_
          have k339 : Keep [17] 103 124 σ309 σ337 := by rw [e338]; repeat (first | exact k325 | refine Keep.upd ?_ rfl _)
          have f340 : σ337 9 = .v (.c a319) := (congrFun e338 9).trans f320
          have f341 : σ337 10 = .v (.c a306) := (congrFun e338 10).trans f327
          have f342 : σ337 102 = V (.int .i64 ((List.length y297 : Int))) := (congrFun e338 102).trans f328
          have f343 : σ337 103 = V (.int .i64 s318) := (congrFun e338 103).trans f322
          have f344 : σ337 17 = V (.int .i64 s318) := (congrFun e338 17).trans rfl
          have f345 : σ337 111 = V (.bool (!y331)) := (congrFun e338 111).trans rfl
          refine k_mid (fun σ' hp' _ => hp324 = hp' ∧ σ' 114 = V (.bool (((!y331) && (decide (s318 ≥ ((160 : Int))))))) ∧ Keep [] 112 114 σ337 σ') ?_ ?_
          · rcases bt (!y331) with g346 | g346
            · refine k_yes (f345.trans (cgB g346)) ?_
              refine k_mov f344 ?_
              refine k_yes (f345.trans (cgB g346)) ?_
              refine k_bin rfl rfl rfl ?_
              refine k_pickT (f345.trans (cgB g346)) rfl ?_
              exact ⟨rfl, cgB (by rw [g346]; rfl), (by repeat (first | exact (Keep.refl _ _ _ _) | refine Keep.upd ?_ rfl _))⟩
            · refine k_no (f345.trans (cgB g346)) rfl ?_
              refine k_no (f345.trans (cgB g346)) rfl ?_
              refine k_pickF (f345.trans (cgB g346)) rfl ?_
              exact ⟨rfl, cgB (by rw [g346]; rfl), (by repeat (first | exact (Keep.refl _ _ _ _) | refine Keep.upd ?_ rfl _))⟩
          rintro σ347 _ _ ⟨rfl, f349, k348⟩
          have f350 : σ347 9 = .v (.c a319) := (k348 9 rfl).trans f340
          have f351 : σ347 10 = .v (.c a306) := (k348 10 rfl).trans f341
          have f352 : σ347 102 = V (.int .i64 ((List.length y297 : Int))) := (k348 102 rfl).trans f342
          have f353 : σ347 103 = V (.int .i64 s318) := (k348 103 rfl).trans f343
          have f354 : σ347 17 = V (.int .i64 s318) := (k348 17 rfl).trans f344
          have k355 : Keep [17] 103 124 σ309 σ347 := Keep.trans k339 (Keep.sub k348 rfl)
          refine k_nil ?_
          refine wpE_cond (p := ((!y331) && (decide (s318 ≥ ((160 : Int)))))) f349 (fun g356 => ?_) (fun g356 => ?_)
          · have h := ctrue h g356
            refine e_last ?_
            refine k_mov f350 ?_
            refine k_mov f354 ?_
            refine k_mov f350 ?_
            refine k_mov f354 ?_
            refine k_bin rfl rfl rfl ?_
            obtain ⟨y357, e358, h⟩ := obind h
            refine k_iadrL rfl o321.any rfl e358 rfl fun p359 c360 q361 h362 => ?_
            obtain rfl : c360 = [IV.int .i64 y357] := h362
            refine k_loadL rfl q361 rfl ?_
            refine k_quo rfl rfl (q := _) rfl ?_
            obtain ⟨y363, e364, h⟩ := obind h
            refine k_iadrO (sz := 1) rfl o321 rfl (idx_in e364) rfl fun p365 q366 => ?_
            refine k_storeO (ws := [IV.int .i64 ((IntKind.wrap .i64 (Int.tdiv y357 ((2 : Int)))))]) (o := 0) (sz := 1) (u' := (IntKind.wrap .i64 (Int.tdiv y357 ((2 : Int))))) rfl q366 rfl rfl rfl e364 (by decide) rfl (fun _ hc => stoAll hc rfl) fun hp367 k368 r369 => ?_
            obtain ⟨l370, e371, h⟩ := bnd_e h
            have o372 := e371 ▸ k368
            have r373 : Fr [33] hp300 hp367 := Fr.ext r326 r369 rfl
            have o374 := o329.fr r369 rfl
            refine k_nil ?_
            show wpE _ _ _ _ _ _ _ _
            refine e_last ?_
            refine k_bin f353 rfl rfl ?_
            refine k_mov rfl ?_
            refine k_nil ?_
            obtain rfl := Option.some.inj h
            exact ⟨rfl, ⟨_, f350, ((o372).wide rfl)⟩, rfl, (by repeat (first | exact k355 | refine Keep.upd ?_ rfl _)), r373⟩
          · have h := cfalse h g356
            refine wpE_skip ?_
            show wpE _ _ _ _ _ _ _ _
            refine e_last ?_
            refine k_bin f353 rfl rfl ?_
            refine k_mov rfl ?_
            refine k_nil ?_
            obtain rfl := Option.some.inj h
            exact ⟨rfl, ⟨_, f350, ((o321).wide rfl)⟩, rfl, (by repeat (first | exact k355 | refine Keep.upd ?_ rfl _)), r326⟩
        · have h := cfalse h g330
          refine wpE_exit ?_
          obtain rfl := Option.some.inj h
          exact ⟨by decide, rfl, ⟨_, f320, ((o321).wide rfl)⟩, (by repeat (first | exact k325 | refine Keep.upd ?_ rfl _)), r326⟩
      rintro _ σ376 hp377 _ ⟨rfl, ⟨a380, f381, o382⟩, k378, r379⟩
      show wpE _ _ _ _ _ _ _ _
      refine e_reg ?_
      refine k_mov f381 ?_
      refine k_mov rfl ?_
      refine k_mov rfl ?_
      refine k_nil ?_
      refine wpE_ret ?_
      obtain ⟨v383, q384, q385⟩ := (o382.any).back lent hl [] rfl
      obtain rfl := Option.some.inj h
      exact e_ret (ct := 0) (.tmp rfl (back_c q384) (.tmp rfl (back_sc rfl) .nil)) ⟨v383, rfl, q385⟩
end Go.Proofs.YtcbepglkfglclaaDoor
