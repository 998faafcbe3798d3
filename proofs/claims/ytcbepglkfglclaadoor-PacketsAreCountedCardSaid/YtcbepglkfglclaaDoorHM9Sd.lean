/-
  The small code of functions comes to the Lean functions. Printed by a program of mine.
-/
import Derived.Test.YtcbepglkfglclaaDoorHM9Sc
namespace Go.Proofs.YtcbepglkfglclaaDoor
open Go Go.Abs
set_option maxRecDepth 100000
set_option maxHeartbeats 1000000
/-- hookflash/media.Losses -/
theorem s40 {x0 : List T_api_Arrival} {vx0 : IV} {r : T_api_Loss × Int} (hx0 : sv R_api_Arrival false vx0 x0) (h : F40_media_Losses x0 = some r) : pc L 40 [.c (I vx0)] true (P40 r) := by
  refine fn_pure (fn := ir40) rfl (Nat.le_of_ble_eq_true rfl) fun lent hl => ?_
  unfold F40_media_Losses at h
  refine e_reg ?_
  refine k_alloc fun g1 hp2 k3 r4 => ?_
  refine k_mov rfl ?_
  refine k_nil ?_
  refine wpE_seq ?_
  refine e_reg ?_
  refine k_mov rfl ?_
  obtain ⟨y5, e6, h⟩ := obind h
  refine k_call (.cons rfl rfl .nil) (s79 (sv_retag hx0) e6) (.inl rfl) ?_
  rintro _ rfl
  refine k_mov rfl ?_
  refine k_nil ?_
  refine e_reg ?_
  refine k_mov rfl ?_
  refine k_bin rfl rfl rfl ?_
  refine k_nil ?_
  refine wpE_cond (p := (y5 != ((0 : Int)))) rfl (fun g8 => ?_) (fun g8 => ?_)
  · have h := ctrue h g8
    refine e_reg ?_
    refine k_build .nil rfl ?_
    refine k_mov rfl ?_
    refine k_storeB rfl rfl k3 rfl fun hp9 k10 r11 => ?_
    refine k_mov rfl ?_
    refine k_nil ?_
    refine wpE_ret ?_
    obtain rfl := Option.some.inj h
    exact e_ret (ct := 0) (.cell rfl k10 rfl (BackP.agg (.cons (backC_inl fun _ => rfl) (.cons (backC_inl fun _ => rfl) (.cons (backC_inl fun _ => rfl) (.cons (backC_inl fun _ => rfl) (.cons (backC_inl fun _ => rfl) .nil)))))) (.tmp rfl (back_sc rfl) .nil)) ⟨[IV.int .i64 ((0 : Int)), IV.int .i64 ((0 : Int)), IV.int .i64 ((0 : Int)), IV.int .i64 ((0 : Int)), IV.int .i64 ((0 : Int))], rfl, (R_api_Loss.mk)⟩
  · have h := cfalse h g8
    refine wpE_skip ?_
    show wpE _ _ _ _ _ _ _ _
    refine wpE_seq ?_
    refine e_reg ?_
    refine k_mov rfl ?_
    refine k_len rfl (sv.any [] _ hx0) ?_
    refine k_bin rfl rfl rfl ?_
    refine k_nil ?_
    refine wpE_cond (p := (((List.length x0 : Int)) == ((0 : Int)))) rfl (fun g12 => ?_) (fun g12 => ?_)
    · have h := ctrue h g12
      refine e_reg ?_
      refine k_build .nil rfl ?_
      refine k_storeB rfl rfl k3 rfl fun hp13 k14 r15 => ?_
      refine k_mov rfl ?_
      refine k_nil ?_
      refine wpE_ret ?_
      obtain rfl := Option.some.inj h
      exact e_ret (ct := 0) (.cell rfl k14 rfl (BackP.agg (.cons (backC_inl fun _ => rfl) (.cons (backC_inl fun _ => rfl) (.cons (backC_inl fun _ => rfl) (.cons (backC_inl fun _ => rfl) (.cons (backC_inl fun _ => rfl) .nil)))))) (.tmp rfl (back_sc rfl) .nil)) ⟨[IV.int .i64 ((0 : Int)), IV.int .i64 ((0 : Int)), IV.int .i64 ((0 : Int)), IV.int .i64 ((0 : Int)), IV.int .i64 ((0 : Int))], rfl, (R_api_Loss.mk)⟩
    · have h := cfalse h g12
      refine wpE_skip ?_
      show wpE _ _ _ _ _ _ _ _
      refine e_reg ?_
      refine k_alloc fun g16 hp17 k18 r19 => ?_
      have k20 := (r19 2 (by decide)).trans k3
      refine k_nil ?_
      refine e_reg ?_
      refine k_mov rfl ?_
      obtain ⟨y21, e22, h⟩ := obind h
      refine k_call (.cons rfl rfl .nil) (s81 (sv_retag hx0) e22) (.inl rfl) ?_
      rintro _ ⟨v24, rfl, q25⟩
      refine k_mov rfl ?_
      refine k_nil ?_
      refine e_regD (by kernel_rfl) (by kernel_rfl) ?_
      refine k_mov rfl ?_
      obtain ⟨y26, e27, h⟩ := obind h
      refine k_iadrL rfl (sv.any [] _ q25) rfl e27 rfl fun p28 c29 q30 h31 => ?_
      obtain rfl : c29 = [IV.int .i64 y26] := h31
      refine k_loadL rfl q30 rfl ?_
      refine k_mov rfl ?_
      obtain ⟨y32, e33, h⟩ := obind h
      refine k_iadrL rfl (sv.any [] _ q25) rfl e33 rfl fun p34 c35 q36 h37 => ?_
      obtain rfl : c35 = [IV.int .i64 y32] := h37
      refine k_loadL rfl q36 rfl ?_
      refine k_mov rfl ?_
      refine k_mov rfl ?_
      refine k_nil ?_
      refine e_reg ?_
      refine k_mkmap (SK.int .i64) IV.bool fun a38 hp39 ct40 o41 r42 => ?_
      have k43 := (r42 2 (by decide)).trans k20
      have k44 := (r42 5 (by decide)).trans k18
      refine k_mov rfl ?_
      refine k_nil ?_
      refine wpE_seq ?_
      refine e_reg ?_
      refine k_mov rfl ?_
      refine k_len rfl (sv.any [] _ q25) ?_
      refine k_mov rfl ?_
      refine k_nil ?_
      refine wpE_block ?_
      refine gE fun σ45 e46 => ?_
      have f47 : σ45 0 = .v (.c ((I vx0))) := (congrFun e46 0).trans rfl
      have f48 : σ45 2 = .v (.c (.r (.ptr 2 g1 0))) := (congrFun e46 2).trans rfl
      have f49 : σ45 5 = .v (.c (.r (.ptr 5 g16 0))) := (congrFun e46 5).trans rfl
      have f50 : σ45 7 = V (.int .i64 y26) := (congrFun e46 7).trans rfl
      have f51 : σ45 8 = V (.int .i64 y32) := (congrFun e46 8).trans rfl
      have f52 : σ45 9 = .v (.c a38) := (congrFun e46 9).trans rfl
      have f53 : σ45 33 = .v (.c ((I v24))) := (congrFun e46 33).trans rfl
      have f54 : σ45 34 = V (.int .i64 ((List.length y21 : Int))) := (congrFun e46 34).trans rfl
      have f55 : σ45 35 = V (.int .i64 ((0 : Int))) := (congrFun e46 35).trans rfl
      obtain ⟨e56, h57, h⟩ := obind h
      refine wpE_mono (e_loop h57 (I := fun s σ' hp' _ => σ' 7 = V (.int .i64 s.1) ∧ σ' 8 = V (.int .i64 s.2.1) ∧ (∃ a, σ' 9 = .v (.c a) ∧ mp [32] (SK.int .i64) IV.bool hp' a s.2.2.1) ∧ σ' 35 = V (.int .i64 s.2.2.2.1) ∧ (∃ c, hp'.get 5 = some (.cells g16 (c.map I)) ∧ R_api_Loss.rp true c s.2.2.2.2) ∧ Keep [7, 8, 11] 35 63 σ45 σ' ∧ Fr [5, 32] hp39 hp') (X := fun e ex σ' hp' _ => ex = .exit 0 ∧ σ' 7 = V (.int .i64 e.1) ∧ σ' 8 = V (.int .i64 e.2.1) ∧ (∃ a, σ' 9 = .v (.c a) ∧ mp [32] (SK.int .i64) IV.bool hp' a e.2.2.1) ∧ (∃ c, hp'.get 5 = some (.cells g16 (c.map I)) ∧ R_api_Loss.rp true c e.2.2.2) ∧ Keep [7, 8, 11] 35 63 σ45 σ' ∧ Fr [5, 32] hp39 hp') ⟨f50, f51, ⟨_, f52, ((o41).wide rfl)⟩, f55, ⟨[IV.int .i64 ((0 : Int)), IV.int .i64 ((0 : Int)), IV.int .i64 ((0 : Int)), IV.int .i64 ((0 : Int)), IV.int .i64 ((0 : Int))], k44, (R_api_Loss.mk)⟩, Keep.refl _ _ _ _, Fr.refl _ _⟩ ?_) ?_
      · clear h
        rintro ⟨w58, w59, w60, w61, w62⟩ o σ72 hp73 _ h ⟨f63, f64, ⟨a65, f66, o67⟩, f68, ⟨c69, k70, h71⟩, k74, r75⟩
        have h : F40_media_Losses_l0 y21 w58 w59 w60 w61 w62 = some o := h; unfold F40_media_Losses_l0 at h
        have f76 : σ72 0 = .v (.c ((I vx0))) := (k74 0 rfl).trans f47
        have f77 : σ72 2 = .v (.c (.r (.ptr 2 g1 0))) := (k74 2 rfl).trans f48
        have f78 : σ72 5 = .v (.c (.r (.ptr 5 g16 0))) := (k74 5 rfl).trans f49
        have f79 : σ72 33 = .v (.c ((I v24))) := (k74 33 rfl).trans f53
        have f80 : σ72 34 = V (.int .i64 ((List.length y21 : Int))) := (k74 34 rfl).trans f54
        have k81 := (r75 2 (by decide)).trans k43
        obtain ⟨_, rfl⟩ := R_api_Loss.inv h71
        show wpE _ _ _ _ _ _ _ _
        refine e_reg ?_
        refine k_bin f68 f80 rfl ?_
        refine k_nil ?_
        refine wpE_seq ?_
        refine wpE_cond (p := (decide (w61 < ((List.length y21 : Int))))) rfl (fun g82 => ?_) (fun g82 => ?_)
        · have h := ctrue h g82
          refine wpE_skip ?_
          show wpE _ _ _ _ _ _ _ _
          refine wpE_seq ?_
          refine wpE_block ?_
          refine e_reg ?_
          obtain ⟨y83, e84, h⟩ := obind h
          refine k_iadrL f79 (sv.any [] _ q25) f68 e84 rfl fun p85 c86 q87 h88 => ?_
          obtain rfl : c86 = [IV.int .i64 y83] := h88
          refine k_loadL rfl q87 rfl ?_
          refine k_mov rfl ?_
          refine k_nil ?_
          refine wpE_seq ?_
          refine wpE_block ?_
          refine e_reg ?_
          refine k_mov f66 ?_
          refine k_mov rfl ?_
          refine k_lkp (z := false) rfl o67 rfl rfl ?_
          refine k_mov rfl ?_
          obtain ⟨u89, e90, h⟩ := bnd_e h
          refine k_nil ?_
          refine gE fun σ91 e92 => ?_
          have k93 : Keep [7, 8, 11] 35 63 σ45 σ91 := by rw [e92]; repeat (first | exact k74 | refine Keep.upd ?_ rfl _)
          have f94 : σ91 0 = .v (.c ((I vx0))) := (congrFun e92 0).trans f76
          have f95 : σ91 2 = .v (.c (.r (.ptr 2 g1 0))) := (congrFun e92 2).trans f77
          have f96 : σ91 5 = .v (.c (.r (.ptr 5 g16 0))) := (congrFun e92 5).trans f78
          have f97 : σ91 7 = V (.int .i64 w58) := (congrFun e92 7).trans f63
          have f98 : σ91 8 = V (.int .i64 w59) := (congrFun e92 8).trans f64
          have f99 : σ91 9 = .v (.c a65) := (congrFun e92 9).trans f66
          have f100 : σ91 33 = .v (.c ((I v24))) := (congrFun e92 33).trans f79
          have f101 : σ91 34 = V (.int .i64 ((List.length y21 : Int))) := (congrFun e92 34).trans f80
          have f102 : σ91 35 = V (.int .i64 w61) := (congrFun e92 35).trans f68
          have f103 : σ91 11 = V (.int .i64 y83) := (congrFun e92 11).trans rfl
          have f104 : σ91 39 = V (.bool u89) := (congrFun e92 39).trans (cgB e90)
          obtain ⟨y107, h106, h⟩ := obind h
          refine wpE_mono (Q := fun ex σ' hp' _ => ex = .normal ∧ (∃ c, hp'.get 5 = some (.cells g16 (c.map I)) ∧ R_api_Loss.rp true c y107) ∧ Keep [] 43 54 σ91 σ' ∧ Fr [5] hp73 hp') ?_ ?_
          · clear h; have h := h106
            refine wpE_cond (p := u89) f104 (fun g108 => ?_) (fun g108 => ?_)
            · have h := ctrue h g108
              refine e_last ?_
              refine k_fadrB (o := 2) f96 k70 ?_
              refine k_loadB rfl k70 rfl ?_
              refine k_bin rfl rfl rfl ?_
              refine k_fadrB (o := 2) f96 k70 ?_
              refine k_storeB rfl rfl k70 rfl fun hp109 k110 r111 => ?_
              have r112 : Fr [5, 32] hp39 hp109 := Fr.ext r75 r111 rfl
              have r113 : Fr [5] hp73 hp109 := Fr.ext (Fr.refl _ _) r111 rfl
              have o114 := o67.fr r111 rfl
              have k115 := (r111 2 (by decide)).trans k81
              refine k_nil ?_
              have q0 := Option.some.inj h
              obtain rfl := q0
              exact ⟨rfl, ⟨[IV.int .i64 w62.Due, IV.int .i64 w62.Missing, IV.int .i64 ((IntKind.wrap .i64 (w62.Twice + ((1 : Int))))), IV.int .i64 w62.Late, IV.int .i64 w62.Jitter], k110, (R_api_Loss.mk)⟩, (by repeat (first | exact (Keep.refl _ _ _ _) | refine Keep.upd ?_ rfl _)), r113⟩
            · have h := cfalse h g108
              refine e_reg ?_
              refine k_mov f103 ?_
              refine k_mov f98 ?_
              refine k_bin rfl rfl rfl ?_
              refine k_mov rfl ?_
              obtain ⟨u116, e117, h⟩ := bnd_e h
              refine k_nil ?_
              refine wpE_cond (p := u116) (cgB e117) (fun g118 => ?_) (fun g118 => ?_)
              · have h := ctrue h g118
                refine e_last ?_
                refine k_fadrB (o := 3) f96 k70 ?_
                refine k_loadB rfl k70 rfl ?_
                refine k_bin rfl rfl rfl ?_
                refine k_fadrB (o := 3) f96 k70 ?_
                refine k_storeB rfl rfl k70 rfl fun hp119 k120 r121 => ?_
                have r122 : Fr [5, 32] hp39 hp119 := Fr.ext r75 r121 rfl
                have r123 : Fr [5] hp73 hp119 := Fr.ext (Fr.refl _ _) r121 rfl
                have o124 := o67.fr r121 rfl
                have k125 := (r121 2 (by decide)).trans k81
                refine k_nil ?_
                have q0 := Option.some.inj h
                obtain rfl := q0
                exact ⟨rfl, ⟨[IV.int .i64 w62.Due, IV.int .i64 w62.Missing, IV.int .i64 w62.Twice, IV.int .i64 ((IntKind.wrap .i64 (w62.Late + ((1 : Int))))), IV.int .i64 w62.Jitter], k120, (R_api_Loss.mk)⟩, (by repeat (first | exact (Keep.refl _ _ _ _) | refine Keep.upd ?_ rfl _)), r123⟩
              · have h := cfalse h g118
                refine wpE_skip ?_
                have q0 := Option.some.inj h
                obtain rfl := q0
                exact ⟨rfl, ⟨[IV.int .i64 w62.Due, IV.int .i64 w62.Missing, IV.int .i64 w62.Twice, IV.int .i64 w62.Late, IV.int .i64 w62.Jitter], k70, (R_api_Loss.mk)⟩, (by repeat (first | exact (Keep.refl _ _ _ _) | refine Keep.upd ?_ rfl _)), (Fr.refl _ _)⟩
          rintro _ σ129 hp130 _ ⟨rfl, ⟨c126, k127, h128⟩, k131, r132⟩
          have f133 : σ129 0 = .v (.c ((I vx0))) := (k131 0 rfl).trans f94
          have f134 : σ129 2 = .v (.c (.r (.ptr 2 g1 0))) := (k131 2 rfl).trans f95
          have f135 : σ129 5 = .v (.c (.r (.ptr 5 g16 0))) := (k131 5 rfl).trans f96
          have f136 : σ129 7 = V (.int .i64 w58) := (k131 7 rfl).trans f97
          have f137 : σ129 8 = V (.int .i64 w59) := (k131 8 rfl).trans f98
          have f138 : σ129 9 = .v (.c a65) := (k131 9 rfl).trans f99
          have f139 : σ129 33 = .v (.c ((I v24))) := (k131 33 rfl).trans f100
          have f140 : σ129 34 = V (.int .i64 ((List.length y21 : Int))) := (k131 34 rfl).trans f101
          have f141 : σ129 35 = V (.int .i64 w61) := (k131 35 rfl).trans f102
          have f142 : σ129 11 = V (.int .i64 y83) := (k131 11 rfl).trans f103
          have k143 : Keep [7, 8, 11] 35 63 σ45 σ129 := Keep.trans k93 (Keep.sub k131 rfl)
          have r144 : Fr [5, 32] hp39 hp130 := Fr.ext r75 r132 rfl
          have o145 := o67.fr r132 rfl
          have k146 := (r132 2 (by decide)).trans k81
          obtain ⟨_, rfl⟩ := R_api_Loss.inv h128
          show wpE _ _ _ _ _ _ _ _
          refine e_reg ?_
          refine k_mov f138 ?_
          refine k_mov f142 ?_
          refine k_mupd (val := true) rfl o145 rfl rfl fun hp147 o148 r149 => ?_
          obtain ⟨l150, e151, h⟩ := bnd_e h
          have o152 := e151 ▸ o148
          have r153 : Fr [5, 32] hp39 hp147 := Fr.ext r144 r149 rfl
          have k154 := (r149 2 (by decide)).trans k146
          have k155 := (r149 5 (by decide)).trans k127
          refine k_nil ?_
          refine e_last ?_
          refine k_mov f136 ?_
          refine k_mov f142 ?_
          refine k_mn2 rfl rfl ?_
          refine k_mov f137 ?_
          refine k_mov f142 ?_
          refine k_mx2 rfl rfl ?_
          refine k_mov rfl ?_
          obtain ⟨u156, e157, h⟩ := bnd_e h
          refine k_mov rfl ?_
          obtain ⟨u158, e159, h⟩ := bnd_e h
          refine k_nil ?_
          show wpE _ _ _ _ _ _ _ _
          refine e_last ?_
          refine k_bin f141 rfl rfl ?_
          refine k_mov rfl ?_
          refine k_nil ?_
          obtain rfl := Option.some.inj h
          exact ⟨rfl, (cgI e157), (cgI e159), ⟨_, f138, ((o152).wide rfl)⟩, rfl, ⟨[IV.int .i64 y107.Due, IV.int .i64 y107.Missing, IV.int .i64 y107.Twice, IV.int .i64 y107.Late, IV.int .i64 y107.Jitter], k155, (R_api_Loss.mk)⟩, (by repeat (first | exact k143 | refine Keep.upd ?_ rfl _)), r153⟩
        · have h := cfalse h g82
          refine wpE_exit ?_
          obtain rfl := Option.some.inj h
          exact ⟨by decide, rfl, f63, f64, ⟨_, f66, ((o67).wide rfl)⟩, ⟨[IV.int .i64 w62.Due, IV.int .i64 w62.Missing, IV.int .i64 w62.Twice, IV.int .i64 w62.Late, IV.int .i64 w62.Jitter], k70, (R_api_Loss.mk)⟩, (by repeat (first | exact k74 | refine Keep.upd ?_ rfl _)), r75⟩
      obtain ⟨y160, y161, y162, y163⟩ := e56
      rintro _ σ164 hp165 _ ⟨rfl, f168, f169, ⟨a170, f171, o172⟩, ⟨c173, k174, h175⟩, k166, r167⟩
      have f176 : σ164 0 = .v (.c ((I vx0))) := (k166 0 rfl).trans f47
      have f177 : σ164 2 = .v (.c (.r (.ptr 2 g1 0))) := (k166 2 rfl).trans f48
      have f178 : σ164 5 = .v (.c (.r (.ptr 5 g16 0))) := (k166 5 rfl).trans f49
      have k179 := (r167 2 (by decide)).trans k43
      obtain ⟨_, rfl⟩ := R_api_Loss.inv h175
      show wpE _ _ _ _ _ _ _ _
      refine e_reg ?_
      refine k_mov f169 ?_
      refine k_mov f168 ?_
      refine k_bin rfl rfl rfl ?_
      refine k_bin rfl rfl rfl ?_
      refine k_fadrB (o := 0) f178 k174 ?_
      refine k_storeB rfl rfl k174 rfl fun hp180 k181 r182 => ?_
      have o183 := o172.fr r182 rfl
      have k184 := (r182 2 (by decide)).trans k179
      refine k_nil ?_
      refine e_reg ?_
      refine k_fadrB (o := 0) f178 k181 ?_
      refine k_loadB rfl k181 rfl ?_
      refine k_mov f171 ?_
      refine k_lenM rfl o183 ?_
      refine k_bin rfl rfl rfl ?_
      refine k_fadrB (o := 1) f178 k181 ?_
      refine k_storeB rfl rfl k181 rfl fun hp185 k186 r187 => ?_
      have k188 := (r187 2 (by decide)).trans k184
      refine k_nil ?_
      refine wpE_seq ?_
      refine e_reg ?_
      refine k_mov rfl ?_
      refine k_nil ?_
      refine wpE_block ?_
      refine gE fun σ189 e190 => ?_
      have f191 : σ189 0 = .v (.c ((I vx0))) := (congrFun e190 0).trans f176
      have f192 : σ189 2 = .v (.c (.r (.ptr 2 g1 0))) := (congrFun e190 2).trans f177
      have f193 : σ189 5 = .v (.c (.r (.ptr 5 g16 0))) := (congrFun e190 5).trans f178
      have f194 : σ189 12 = V (.int .i64 ((1 : Int))) := (congrFun e190 12).trans rfl
      obtain ⟨y268, h196, h⟩ := obind h
      refine wpE_mono (e_loop h196 (I := fun s σ' hp' _ => σ' 12 = V (.int .i64 s.1) ∧ (∃ c, hp'.get 5 = some (.cells g16 (c.map I)) ∧ R_api_Loss.rp true c s.2) ∧ Keep [] 12 121 σ189 σ' ∧ Fr [5] hp185 hp') (X := fun e ex σ' hp' _ => ex = .exit 3 ∧ (∃ c, hp'.get 5 = some (.cells g16 (c.map I)) ∧ R_api_Loss.rp true c e) ∧ Keep [] 12 121 σ189 σ' ∧ Fr [5] hp185 hp') ⟨f194, ⟨[IV.int .i64 ((IntKind.wrap .i64 (((IntKind.wrap .i64 (y161 - y160))) + ((1 : Int))))), IV.int .i64 ((IntKind.wrap .i64 (((IntKind.wrap .i64 (((IntKind.wrap .i64 (y161 - y160))) + ((1 : Int))))) - ((List.length y162 : Int))))), IV.int .i64 y163.Twice, IV.int .i64 y163.Late, IV.int .i64 y163.Jitter], k186, (R_api_Loss.mk)⟩, Keep.refl _ _ _ _, Fr.refl _ _⟩ ?_) ?_
      · clear h
        rintro ⟨w197, w198⟩ o σ203 hp204 _ h ⟨f199, ⟨c200, k201, h202⟩, k205, r206⟩
        have h : F40_media_Losses_l1 x0 w197 w198 = some o := h; unfold F40_media_Losses_l1 at h
        have f207 : σ203 0 = .v (.c ((I vx0))) := (k205 0 rfl).trans f191
        have f208 : σ203 2 = .v (.c (.r (.ptr 2 g1 0))) := (k205 2 rfl).trans f192
        have f209 : σ203 5 = .v (.c (.r (.ptr 5 g16 0))) := (k205 5 rfl).trans f193
        have k210 := (r206 2 (by decide)).trans k188
        obtain ⟨_, rfl⟩ := R_api_Loss.inv h202
        show wpE _ _ _ _ _ _ _ _
        refine wpE_seq ?_
        refine e_reg ?_
        refine k_mov f199 ?_
        refine k_mov f207 ?_
        refine k_len rfl (sv.any [] _ hx0) ?_
        refine k_bin rfl rfl rfl ?_
        refine k_nil ?_
        refine wpE_cond (p := (decide (w197 < ((List.length x0 : Int))))) rfl (fun g211 => ?_) (fun g211 => ?_)
        · have h := ctrue h g211
          refine wpE_skip ?_
          show wpE _ _ _ _ _ _ _ _
          refine wpE_seq ?_
          refine wpE_block ?_
          refine e_regD (by kernel_rfl) (by kernel_rfl) ?_
          refine k_mov f207 ?_
          refine k_mov f199 ?_
          obtain ⟨y212, e213, h⟩ := obind h
          refine k_iadrL rfl (sv.any [] _ hx0) rfl e213 rfl fun p214 c215 q216 h217 => ?_
          obtain ⟨v218, rfl, q219⟩ := R_api_Arrival.inv h217
          refine k_fadrL (o := 0) rfl q216 (Nat.le_of_ble_eq_true rfl) fun p220 q221 => ?_
          refine k_loadL rfl q221 rfl ?_
          refine k_mov f207 ?_
          refine k_mov f199 ?_
          refine k_bin rfl rfl rfl ?_
          obtain ⟨y222, e223, h⟩ := obind h
          refine k_iadrL rfl (sv.any [] _ hx0) rfl e223 rfl fun p224 c225 q226 h227 => ?_
          obtain ⟨v228, rfl, q229⟩ := R_api_Arrival.inv h227
          refine k_fadrL (o := 0) rfl q226 (Nat.le_of_ble_eq_true rfl) fun p230 q231 => ?_
          refine k_loadL rfl q231 rfl ?_
          refine k_bin rfl rfl rfl ?_
          refine k_mov f207 ?_
          refine k_mov f199 ?_
          obtain ⟨y232, e233, h⟩ := obind h
          refine k_iadrL rfl (sv.any [] _ hx0) rfl e233 rfl fun p234 c235 q236 h237 => ?_
          obtain ⟨v238, rfl, q239⟩ := R_api_Arrival.inv h237
          refine k_fadrL (o := 1) rfl q236 (Nat.le_of_ble_eq_true rfl) fun p240 q241 => ?_
          refine k_fadrL (o := 2) rfl q241 (Nat.le_of_ble_eq_true rfl) fun p242 q243 => ?_
          refine k_loadL rfl q243 rfl ?_
          refine k_mov f207 ?_
          refine k_mov f199 ?_
          refine k_bin rfl rfl rfl ?_
          obtain ⟨y244, e245, h⟩ := obind h
          refine k_iadrL rfl (sv.any [] _ hx0) rfl e245 rfl fun p246 c247 q248 h249 => ?_
          obtain ⟨v250, rfl, q251⟩ := R_api_Arrival.inv h249
          refine k_fadrL (o := 1) rfl q248 (Nat.le_of_ble_eq_true rfl) fun p252 q253 => ?_
          refine k_fadrL (o := 2) rfl q253 (Nat.le_of_ble_eq_true rfl) fun p254 q255 => ?_
          refine k_loadL rfl q255 rfl ?_
          obtain ⟨y256, e257, h⟩ := obind h
          refine k_call (.cons rfl rfl (.cons rfl rfl .nil)) (s80  e257) (.inl rfl) ?_
          rintro _ rfl
          refine k_bin rfl rfl rfl ?_
          refine k_bin rfl rfl rfl ?_
          refine k_mov rfl ?_
          obtain ⟨u259, e260, h⟩ := bnd_e h
          refine k_nil ?_
          refine e_last ?_
          refine k_fadrB (o := 4) f209 k201 ?_
          refine k_loadB rfl k201 rfl ?_
          refine k_mov (cgI e260) ?_
          refine k_mov (cgI e260) ?_
          refine k_neg rfl ?_
          refine k_mx2 rfl rfl ?_
          refine k_fadrB (o := 4) f209 k201 ?_
          refine k_loadB rfl k201 rfl ?_
          refine k_bin rfl rfl rfl ?_
          refine k_bin rfl rfl rfl ?_
          refine k_bin rfl rfl rfl ?_
          refine k_bin rfl rfl rfl ?_
          refine k_fadrB (o := 4) f209 k201 ?_
          refine k_storeB rfl rfl k201 rfl fun hp261 k262 r263 => ?_
          have r264 : Fr [5] hp185 hp261 := Fr.ext r206 r263 rfl
          have k265 := (r263 2 (by decide)).trans k210
          refine k_nil ?_
          show wpE _ _ _ _ _ _ _ _
          refine e_last ?_
          refine k_mov f199 ?_
          refine k_bin rfl rfl rfl ?_
          refine k_mov rfl ?_
          obtain ⟨u266, e267, h⟩ := bnd_e h
          refine k_nil ?_
          obtain rfl := Option.some.inj h
          exact ⟨rfl, (cgI e267), ⟨[IV.int .i64 w198.Due, IV.int .i64 w198.Missing, IV.int .i64 w198.Twice, IV.int .i64 w198.Late, IV.int .i64 ((IntKind.wrap .i64 (w198.Jitter + ((IntKind.wrap .i64 (((gmax u259 ((IntKind.wrap .i64 (0 - u259))))) - ((Int.fdiv ((IntKind.wrap .i64 (w198.Jitter + ((8 : Int))))) (2 ^ 4)))))))))], k262, (R_api_Loss.mk)⟩, (by repeat (first | exact k205 | refine Keep.upd ?_ rfl _)), r264⟩
        · have h := cfalse h g211
          refine wpE_exit ?_
          obtain rfl := Option.some.inj h
          exact ⟨by decide, rfl, ⟨[IV.int .i64 w198.Due, IV.int .i64 w198.Missing, IV.int .i64 w198.Twice, IV.int .i64 w198.Late, IV.int .i64 w198.Jitter], k201, (R_api_Loss.mk)⟩, (by repeat (first | exact k205 | refine Keep.upd ?_ rfl _)), r206⟩
      rintro _ σ269 hp270 _ ⟨rfl, ⟨c273, k274, h275⟩, k271, r272⟩
      have f276 : σ269 2 = .v (.c (.r (.ptr 2 g1 0))) := (k271 2 rfl).trans f192
      have f277 : σ269 5 = .v (.c (.r (.ptr 5 g16 0))) := (k271 5 rfl).trans f193
      have k278 := (r272 2 (by decide)).trans k188
      obtain ⟨_, rfl⟩ := R_api_Loss.inv h275
      show wpE _ _ _ _ _ _ _ _
      refine e_reg ?_
      refine k_loadB f277 k274 rfl ?_
      refine k_storeB f276 rfl k278 rfl fun hp279 k280 r281 => ?_
      refine k_mov rfl ?_
      refine k_nil ?_
      refine wpE_ret ?_
      obtain rfl := Option.some.inj h
      exact e_ret (ct := 0) (.cell f276 k280 rfl (BackP.agg (.cons (backC_inl fun _ => rfl) (.cons (backC_inl fun _ => rfl) (.cons (backC_inl fun _ => rfl) (.cons (backC_inl fun _ => rfl) (.cons (backC_inl fun _ => rfl) .nil)))))) (.tmp rfl (back_sc rfl) .nil)) ⟨[IV.int .i64 y268.Due, IV.int .i64 y268.Missing, IV.int .i64 y268.Twice, IV.int .i64 y268.Late, IV.int .i64 y268.Jitter], rfl, (R_api_Loss.mk)⟩
/-- ready: by running it. -/
theorem ready_run : isTrue1 (run tabs fns (xRun kx) 40 20 18 [] []) = true := by kernel_rfl
theorem s18 {r : Bool} (h : F18_flashkeep2_ready = some r) : pc L 18 [] true (P18 r) := by
  obtain rfl := Option.some.inj h
  exact pc_true ready_run
end Go.Proofs.YtcbepglkfglclaaDoor
