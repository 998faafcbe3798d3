/-
  The small code of functions comes to the Lean functions. Printed by a program of mine.
-/
import Derived.Test.YtcbepglkfglclaaDoorHM11Se
namespace Go.Proofs.YtcbepglkfglclaaDoor
open Go Go.Abs
set_option maxRecDepth 100000
set_option maxHeartbeats 1000000
/-- hookflash/flashkeep2.HoursTurn -/
theorem s11 {x0 : List Int} {vx0 : IV} {r : Bool} (hx0 : sv (Rep.int .i64) false vx0 x0) (h : F11_flashkeep2_HoursTurn x0 = some r) : pc L 11 [.c (I vx0)] true (P11 r) := by
  refine fn_pure (fn := ir11) rfl (Nat.le_of_ble_eq_true rfl) fun lent hl => ?_
  unfold F11_flashkeep2_HoursTurn at h
  refine e_reg ?_
  refine k_mov rfl ?_
  refine k_nil ?_
  refine e_reg ?_
  refine k_mov rfl ?_
  refine k_build (.cons rfl .nil) rfl ?_
  refine k_box rfl rfl fun g1 hp2 k3 r4 => ?_
  refine k_mov rfl ?_
  refine k_nil ?_
  refine wpE_seq ?_
  refine wp_ghost ?_
  refine k_clr ?_
  refine k_clr ?_
  refine k_nil ?_
  refine e_lastT (by kernel_rfl) (by kernel_rfl) ?_
  refine t_n ?_
  refine k_mov rfl ?_
  refine k_nil ?_
  obtain ⟨y5, e6, h⟩ := obind h
  refine t_t ?_
  refine k_meth (cells := [vx0, IV.int .i64 ((0 : Int))]) rfl k3 .nil rfl (s47  (R_flashmake_Stream.retag (f := false) (c := [vx0, IV.int .i64 ((0 : Int))]) (R_flashmake_Stream.mk hx0)) e6) fun v7 c8 hp9 h10 k11 r12 => ?_
  obtain ⟨v13, rfl, q14, h15⟩ := h10
  obtain ⟨v16, rfl, q17⟩ := R_flashmake_Stream.inv h15
  refine k_nil ⟨r12, ?_⟩
  obtain ⟨y18, e19, h⟩ := obind h
  refine t_r (S := []) (dep_iadr rfl (sa.lies (hp := hp9) (sv.any [] _ q14))) ?_
  refine k_iadrL rfl (sv.any [] _ q14) rfl e19 rfl fun p20 c21 q22 h23 => ?_
  obtain ⟨v24, v26, rfl, q25, q27⟩ := R_api_Hours.inv h23
  refine k_nil ?_
  refine t_r (S := []) (dep_load rfl (ep.lies q22)) ?_
  refine k_loadL rfl q22 rfl ?_
  refine k_nil ?_
  refine t_n ?_
  refine k_mov rfl ?_
  refine k_nil ?_
  refine t_r (S := []) (dep_bslI (vs := [IV.int .i64 ((0 : Int)), IV.int .i64 ((1 : Int)), IV.int .i64 ((3600000 : Int))]) (.cons rfl (.cons rfl (.cons rfl .nil))) rfl) ?_
  refine k_bslI (len := 3) (z := IV.int .i64 ((0 : Int))) (vs := [IV.int .i64 ((0 : Int)), IV.int .i64 ((1 : Int)), IV.int .i64 ((3600000 : Int))]) (.cons rfl (.cons rfl (.cons rfl .nil))) (by decide) rfl ?_
  have o28 : sv (Rep.int .i64) true (.lit 0 [IV.int .i64 ((0 : Int)), IV.int .i64 ((1 : Int)), IV.int .i64 ((3600000 : Int))] 3) ([(0 : Int), (1 : Int), (3600000 : Int)] : List Int) := sv_lit true (⟨[IV.int .i64 ((0 : Int))], _, rfl, rfl, ⟨[IV.int .i64 ((1 : Int))], _, rfl, rfl, ⟨[IV.int .i64 ((3600000 : Int))], _, rfl, rfl, rfl⟩⟩⟩) rfl
  refine k_nil ?_
  obtain ⟨y29, e30, h⟩ := obind h
  refine t_t ?_
  refine k_meth (cells := [v16, IV.int .i64 y5.1.at_]) rfl k11 (.cons rfl rfl .nil) rfl (s36  (R_flashmake_Stream.retag (f := false) (c := [v16, IV.int .i64 y5.1.at_]) (R_flashmake_Stream.mk q17)) (sv_retag o28) e30) fun v31 c32 hp33 h34 k35 r36 => ?_
  obtain ⟨rfl, h37⟩ := h34
  obtain ⟨v38, rfl, q39⟩ := R_flashmake_Stream.inv h37
  refine k_nil ⟨r36, ?_⟩
  refine t_n ?_
  refine k_mov rfl ?_
  refine k_nil ?_
  refine t_r (S := []) (dep_bslI (vs := [IV.int .i64 ((86400000 : Int)), IV.int .i64 ((432000000 : Int))]) (.cons rfl (.cons rfl .nil)) rfl) ?_
  refine k_bslI (len := 2) (z := IV.int .i64 ((0 : Int))) (vs := [IV.int .i64 ((86400000 : Int)), IV.int .i64 ((432000000 : Int))]) (.cons rfl (.cons rfl .nil)) (by decide) rfl ?_
  have o40 : sv (Rep.int .i64) true (.lit 0 [IV.int .i64 ((86400000 : Int)), IV.int .i64 ((432000000 : Int))] 2) ([(86400000 : Int), (432000000 : Int)] : List Int) := sv_lit true (⟨[IV.int .i64 ((86400000 : Int))], _, rfl, rfl, ⟨[IV.int .i64 ((432000000 : Int))], _, rfl, rfl, rfl⟩⟩) rfl
  refine k_nil ?_
  obtain ⟨y41, e42, h⟩ := obind h
  refine t_t ?_
  refine k_meth (cells := [v38, IV.int .i64 y29.1.at_]) rfl k35 (.cons rfl rfl .nil) rfl (s36  (R_flashmake_Stream.retag (f := false) (c := [v38, IV.int .i64 y29.1.at_]) (R_flashmake_Stream.mk q39)) (sv_retag o40) e42) fun v43 c44 hp45 h46 k47 r48 => ?_
  obtain ⟨rfl, h49⟩ := h46
  obtain ⟨v50, rfl, q51⟩ := R_flashmake_Stream.inv h49
  refine k_nil ⟨r48, ?_⟩
  refine t_n ?_
  refine k_build (.cons rfl (.cons rfl .nil)) rfl ?_
  refine k_nil ?_
  refine t_n ?_
  refine k_gal (Nat.le_of_ble_eq_true rfl) rfl ?_
  refine k_nil ?_
  refine t_n ?_
  refine k_gal (Nat.le_of_ble_eq_true rfl) rfl ?_
  refine k_nil ?_
  refine t_n ?_
  refine k_gst [IV.str y18.Key, IV.int .i64 y18.Zone, v24, v26] rfl rfl rfl ?_
  refine k_nil ?_
  refine t_n ?_
  refine k_gst [IV.int .i64 y29.2, IV.int .i64 y41.2] rfl rfl rfl ?_
  refine k_nil ?_
  refine t_nil ?_
  show wpE _ _ _ _ _ _ _ _
  refine e_reg ?_
  refine k_loadL rfl (ep_lp 0 [IV.str y18.Key, IV.int .i64 y18.Zone, v24, v26]) rfl ?_
  refine k_loadL rfl (ep_lp 0 [IV.int .i64 y29.2, IV.int .i64 y41.2]) rfl ?_
  obtain ⟨y52, e53, h⟩ := obind h
  refine k_call (.cons rfl rfl (.cons rfl rfl .nil)) (s48 (cx0 := [IV.str y18.Key, IV.int .i64 y18.Zone, (IV.retag 1 v24), (IV.retag 1 v26)]) (R_api_Hours.mk (sv_retag q25) (sv_retag q27)) (cx1 := [IV.int .i64 y29.2, IV.int .i64 y41.2]) (R_api_Window.mk) e53) (.inl rfl) ?_
  rintro _ ⟨v55, rfl, q56⟩
  refine k_movT rfl ?_
  refine k_ext rfl rfl ?_
  refine k_ext rfl rfl ?_
  refine k_mov rfl ?_
  refine k_mov rfl ?_
  refine k_nil ?_
  refine wpE_seq ?_
  refine e_reg ?_
  refine k_mov rfl ?_
  refine k_bin rfl rfl rfl ?_
  refine k_mov rfl ?_
  refine gL fun σ57 e58 => ?_
  have f59 : σ57 3 = .v (.c (.r (.ptr 20 g1 0))) := (congrFun e58 3).trans rfl
  have f60 : σ57 4 = .v (.c (I (.lp 0 [IV.str y18.Key, IV.int .i64 y18.Zone, v24, v26]))) := (congrFun e58 4).trans rfl
  have f61 : σ57 5 = .v (.c (I (.lp 0 [IV.int .i64 y29.2, IV.int .i64 y41.2]))) := (congrFun e58 5).trans rfl
  have f62 : σ57 6 = .v (.c ((I v55))) := (congrFun e58 6).trans rfl
  have f63 : σ57 40 = V (.bool ((y52.2 != ((0 : Int))))) := (congrFun e58 40).trans rfl
  obtain ⟨y68, e69, h⟩ := obind h
  refine k_mid (fun σ' hp' _ => hp45 = hp' ∧ σ' 44 = V (.bool y68) ∧ Keep [] 41 44 σ57 σ') ?_ ?_
  · rcases bt ((y52.2 != ((0 : Int)))) with g64 | g64
    · have h := ctrue e69 g64
      refine k_no (f63.trans (cgB g64)) rfl ?_
      refine k_no (f63.trans (cgB g64)) rfl ?_
      refine k_no (f63.trans (cgB g64)) rfl ?_
      refine k_pickT (f63.trans (cgB g64)) rfl ?_
      exact ⟨rfl, cgB (Option.some.inj h), (by repeat (first | exact (Keep.refl _ _ _ _) | refine Keep.upd ?_ rfl _))⟩
    · have h := cfalse e69 g64
      refine k_yes (f63.trans (cgB g64)) ?_
      refine k_mov f62 ?_
      refine k_yes (f63.trans (cgB g64)) ?_
      obtain ⟨y65, e66, h⟩ := obind h
      refine k_call (.cons rfl rfl .nil) (s49 (sv_retag q56) e66) (.inl rfl) ?_
      rintro _ rfl
      refine k_yes (f63.trans (cgB g64)) ?_
      refine k_not rfl ?_
      refine k_pickF (f63.trans (cgB g64)) rfl ?_
      exact ⟨rfl, cgB (Option.some.inj h), (by repeat (first | exact (Keep.refl _ _ _ _) | refine Keep.upd ?_ rfl _))⟩
  rintro σ70 _ _ ⟨rfl, f72, k71⟩
  have f73 : σ70 3 = .v (.c (.r (.ptr 20 g1 0))) := (k71 3 rfl).trans f59
  have f74 : σ70 4 = .v (.c (I (.lp 0 [IV.str y18.Key, IV.int .i64 y18.Zone, v24, v26]))) := (k71 4 rfl).trans f60
  have f75 : σ70 5 = .v (.c (I (.lp 0 [IV.int .i64 y29.2, IV.int .i64 y41.2]))) := (k71 5 rfl).trans f61
  have f76 : σ70 6 = .v (.c ((I v55))) := (k71 6 rfl).trans f62
  refine k_nil ?_
  refine wpE_cond (p := y68) f72 (fun g77 => ?_) (fun g77 => ?_)
  · have h := ctrue h g77
    refine e_reg ?_
    refine k_mov rfl ?_
    refine k_nil ?_
    refine wpE_ret ?_
    obtain rfl := Option.some.inj h
    exact e_ret (ct := 0) (.tmp rfl (back_sc rfl) .nil) rfl
  · have h := cfalse h g77
    refine wpE_skip ?_
    show wpE _ _ _ _ _ _ _ _
    refine e_regT (by kernel_rfl) (by kernel_rfl) ?_
    refine t_r (S := []) (dep_fadr f75 (ep.lies (ep_lp (hp := hp45) (G := tabs) 0 [IV.int .i64 y29.2, IV.int .i64 y41.2]))) ?_
    refine k_fadrL (o := 0) f75 (ep_lp 0 [IV.int .i64 y29.2, IV.int .i64 y41.2]) (Nat.le_of_ble_eq_true rfl) fun p78 q79 => ?_
    refine k_nil ?_
    refine t_r (S := []) (dep_load rfl (ep.lies q79)) ?_
    refine k_loadL rfl q79 rfl ?_
    refine k_nil ?_
    refine t_n ?_
    refine k_mov f73 ?_
    refine k_nil ?_
    refine t_r (S := []) (dep_fadr f75 (ep.lies (ep_lp (hp := hp45) (G := tabs) 0 [IV.int .i64 y29.2, IV.int .i64 y41.2]))) ?_
    refine k_fadrL (o := 1) f75 (ep_lp 0 [IV.int .i64 y29.2, IV.int .i64 y41.2]) (Nat.le_of_ble_eq_true rfl) fun p80 q81 => ?_
    refine k_nil ?_
    refine t_r (S := []) (dep_load rfl (ep.lies q81)) ?_
    refine k_loadL rfl q81 rfl ?_
    refine k_nil ?_
    refine t_r (S := []) (dep_fadr f75 (ep.lies (ep_lp (hp := hp45) (G := tabs) 0 [IV.int .i64 y29.2, IV.int .i64 y41.2]))) ?_
    refine k_fadrL (o := 0) f75 (ep_lp 0 [IV.int .i64 y29.2, IV.int .i64 y41.2]) (Nat.le_of_ble_eq_true rfl) fun p82 q83 => ?_
    refine k_nil ?_
    refine t_r (S := []) (dep_load rfl (ep.lies q83)) ?_
    refine k_loadL rfl q83 rfl ?_
    refine k_nil ?_
    refine t_n ?_
    refine k_bin rfl rfl rfl ?_
    refine k_nil ?_
    refine t_n ?_
    refine k_bin rfl rfl rfl ?_
    refine k_nil ?_
    obtain ⟨y84, e85, h⟩ := obind h
    refine t_t ?_
    refine k_meth (cells := [v50, IV.int .i64 y41.1.at_]) rfl k47 (.cons rfl rfl (.cons rfl rfl .nil)) rfl (s15  (R_flashmake_Stream.retag (f := false) (c := [v50, IV.int .i64 y41.1.at_]) (R_flashmake_Stream.mk q51)) e85) fun v86 c87 hp88 h89 k90 r91 => ?_
    obtain ⟨rfl, h92⟩ := h89
    obtain ⟨v93, rfl, q94⟩ := R_flashmake_Stream.inv h92
    refine k_nil ⟨r91, ?_⟩
    refine t_n ?_
    refine k_bin rfl rfl rfl ?_
    refine k_nil ?_
    refine t_n ?_
    refine k_mov rfl ?_
    obtain ⟨u95, e96, h⟩ := bnd_e h
    refine k_nil ?_
    refine t_nil ?_
    refine e_reg ?_
    refine k_loadL f74 (ep_lp 0 [IV.str y18.Key, IV.int .i64 y18.Zone, v24, v26]) rfl ?_
    refine k_mov (cgI e96) ?_
    obtain ⟨y97, e98, h⟩ := obind h
    refine k_call (.cons rfl rfl (.cons rfl rfl .nil)) (s50 (cx0 := [IV.str y18.Key, IV.int .i64 y18.Zone, (IV.retag 1 v24), (IV.retag 1 v26)]) (R_api_Hours.mk (sv_retag q25) (sv_retag q27)) e98) (.inl rfl) ?_
    rintro _ rfl
    refine k_movT rfl ?_
    refine k_ext rfl rfl ?_
    refine k_ext rfl rfl ?_
    refine k_mov rfl ?_
    refine k_mov rfl ?_
    refine k_nil ?_
    refine e_reg ?_
    refine k_mov rfl ?_
    refine k_nil ?_
    refine wpE_seq ?_
    refine e_reg ?_
    refine k_mov f76 ?_
    refine k_len rfl (sv.any [] _ q56) ?_
    refine k_mov rfl ?_
    refine k_nil ?_
    refine wpE_block ?_
    refine gE fun σ100 e101 => ?_
    have f102 : σ100 4 = .v (.c (I (.lp 0 [IV.str y18.Key, IV.int .i64 y18.Zone, v24, v26]))) := (congrFun e101 4).trans f74
    have f103 : σ100 5 = .v (.c (I (.lp 0 [IV.int .i64 y29.2, IV.int .i64 y41.2]))) := (congrFun e101 5).trans f75
    have f104 : σ100 8 = V (.int .i64 u95) := (congrFun e101 8).trans (cgI e96)
    have f105 : σ100 9 = V (.bool y97.1) := (congrFun e101 9).trans rfl
    have f106 : σ100 10 = V (.int .i64 y97.2) := (congrFun e101 10).trans rfl
    have f107 : σ100 11 = V (.int .i64 ((0 : Int))) := (congrFun e101 11).trans rfl
    have f108 : σ100 62 = .v (.c ((I v55))) := (congrFun e101 62).trans rfl
    have f109 : σ100 63 = V (.int .i64 ((List.length y52.1 : Int))) := (congrFun e101 63).trans rfl
    have f110 : σ100 64 = V (.int .i64 ((0 : Int))) := (congrFun e101 64).trans rfl
    obtain ⟨e111, h112, h⟩ := lret_e h
    refine wpE_mono (e_loop h112 (I := fun s σ' hp' _ => σ' 11 = V (.int .i64 s.1) ∧ σ' 64 = V (.int .i64 s.2) ∧ Keep [2, 11, 13, 14, 15, 16, 17] 64 100 σ100 σ' ∧ hp88 = hp') (X := fun e ex σ' hp' _ => match e with | .inl e => ex = .exit 0 ∧ σ' 11 = V (.int .i64 e) ∧ Keep [2, 11, 13, 14, 15, 16, 17] 64 100 σ100 σ' ∧ hp88 = hp' | .inr r => ex = .ret ∧ ∀ ct, atEnd 113 [Res.tmp 2] (fin lent (P11 r)) .ret σ' hp' ct) ⟨f107, f110, Keep.refl _ _ _ _, rfl⟩ ?_) ?_
    · clear h
      rintro ⟨w113, w114⟩ o σ117 _ _ h ⟨f115, f116, k119, rfl⟩
      have h : F11_flashkeep2_HoursTurn_l0 y18 y29 y52 u95 w113 w114 = some o := h; unfold F11_flashkeep2_HoursTurn_l0 at h
      have f121 : σ117 4 = .v (.c (I (.lp 0 [IV.str y18.Key, IV.int .i64 y18.Zone, v24, v26]))) := (k119 4 rfl).trans f102
      have f122 : σ117 5 = .v (.c (I (.lp 0 [IV.int .i64 y29.2, IV.int .i64 y41.2]))) := (k119 5 rfl).trans f103
      have f123 : σ117 8 = V (.int .i64 u95) := (k119 8 rfl).trans f104
      have f124 : σ117 9 = V (.bool y97.1) := (k119 9 rfl).trans f105
      have f125 : σ117 10 = V (.int .i64 y97.2) := (k119 10 rfl).trans f106
      have f126 : σ117 62 = .v (.c ((I v55))) := (k119 62 rfl).trans f108
      have f127 : σ117 63 = V (.int .i64 ((List.length y52.1 : Int))) := (k119 63 rfl).trans f109
      show wpE _ _ _ _ _ _ _ _
      refine e_reg ?_
      refine k_bin f116 f127 rfl ?_
      refine k_nil ?_
      refine wpE_seq ?_
      refine wpE_cond (p := (decide (w114 < ((List.length y52.1 : Int))))) rfl (fun g128 => ?_) (fun g128 => ?_)
      · have h := ctrue h g128
        refine wpE_skip ?_
        show wpE _ _ _ _ _ _ _ _
        refine wpE_seq ?_
        refine wpE_block ?_
        refine e_reg ?_
        obtain ⟨y129, e130, h⟩ := obind h
        refine k_iadrL f126 (sv.any [] _ q56) f116 e130 rfl fun p131 c132 q133 h134 => ?_
        obtain rfl : c132 = [IV.int .i64 y129] := h134
        refine k_loadL rfl q133 rfl ?_
        refine k_mov rfl ?_
        refine k_nil ?_
        refine wpE_seq ?_
        refine e_reg ?_
        refine k_mov rfl ?_
        refine k_mov f123 ?_
        refine k_bin rfl rfl rfl ?_
        refine k_nil ?_
        refine gE fun σ135 e136 => ?_
        have k137 : Keep [2, 11, 13, 14, 15, 16, 17] 64 100 σ100 σ135 := by rw [e136]; repeat (first | exact k119 | refine Keep.upd ?_ rfl _)
        have f138 : σ135 4 = .v (.c (I (.lp 0 [IV.str y18.Key, IV.int .i64 y18.Zone, v24, v26]))) := (congrFun e136 4).trans f121
        have f139 : σ135 5 = .v (.c (I (.lp 0 [IV.int .i64 y29.2, IV.int .i64 y41.2]))) := (congrFun e136 5).trans f122
        have f140 : σ135 8 = V (.int .i64 u95) := (congrFun e136 8).trans f123
        have f141 : σ135 9 = V (.bool y97.1) := (congrFun e136 9).trans f124
        have f142 : σ135 10 = V (.int .i64 y97.2) := (congrFun e136 10).trans f125
        have f143 : σ135 11 = V (.int .i64 w113) := (congrFun e136 11).trans f115
        have f144 : σ135 62 = .v (.c ((I v55))) := (congrFun e136 62).trans f126
        have f145 : σ135 63 = V (.int .i64 ((List.length y52.1 : Int))) := (congrFun e136 63).trans f127
        have f146 : σ135 64 = V (.int .i64 w114) := (congrFun e136 64).trans f116
        have f147 : σ135 13 = V (.int .i64 y129) := (congrFun e136 13).trans rfl
        have f148 : σ135 70 = V (.bool ((decide (y129 ≤ u95)))) := (congrFun e136 70).trans rfl
        obtain ⟨y151, h150, h⟩ := obind h
        refine wpE_mono (Q := fun ex σ' hp' _ => ex = .normal ∧ σ' 11 = V (.int .i64 y151) ∧ Keep [11] 71 72 σ135 σ' ∧ hp88 = hp') ?_ ?_
        · clear h; have h := h150
          refine wpE_cond (p := (decide (y129 ≤ u95))) f148 (fun g152 => ?_) (fun g152 => ?_)
          · have h := ctrue h g152
            refine e_last ?_
            refine k_mov f143 ?_
            refine k_bin rfl rfl rfl ?_
            refine k_mov rfl ?_
            obtain ⟨u153, e154, h⟩ := bnd_e h
            refine k_nil ?_
            have q0 := Option.some.inj h
            obtain rfl := q0
            exact ⟨rfl, (cgI e154), (by repeat (first | exact (Keep.refl _ _ _ _) | refine Keep.upd ?_ rfl _)), rfl⟩
          · have h := cfalse h g152
            refine wpE_skip ?_
            have q0 := Option.some.inj h
            obtain rfl := q0
            exact ⟨rfl, f143, (by repeat (first | exact (Keep.refl _ _ _ _) | refine Keep.upd ?_ rfl _)), rfl⟩
        rintro _ σ156 _ _ ⟨rfl, f155, k158, rfl⟩
        have f160 : σ156 4 = .v (.c (I (.lp 0 [IV.str y18.Key, IV.int .i64 y18.Zone, v24, v26]))) := (k158 4 rfl).trans f138
        have f161 : σ156 5 = .v (.c (I (.lp 0 [IV.int .i64 y29.2, IV.int .i64 y41.2]))) := (k158 5 rfl).trans f139
        have f162 : σ156 8 = V (.int .i64 u95) := (k158 8 rfl).trans f140
        have f163 : σ156 9 = V (.bool y97.1) := (k158 9 rfl).trans f141
        have f164 : σ156 10 = V (.int .i64 y97.2) := (k158 10 rfl).trans f142
        have f165 : σ156 62 = .v (.c ((I v55))) := (k158 62 rfl).trans f144
        have f166 : σ156 63 = V (.int .i64 ((List.length y52.1 : Int))) := (k158 63 rfl).trans f145
        have f167 : σ156 64 = V (.int .i64 w114) := (k158 64 rfl).trans f146
        have f168 : σ156 13 = V (.int .i64 y129) := (k158 13 rfl).trans f147
        have k169 : Keep [2, 11, 13, 14, 15, 16, 17] 64 100 σ100 σ156 := Keep.trans k137 (Keep.sub k158 rfl)
        show wpE _ _ _ _ _ _ _ _
        refine e_reg ?_
        refine k_mov f168 ?_
        refine k_fadrL (o := 0) f161 (ep_lp 0 [IV.int .i64 y29.2, IV.int .i64 y41.2]) (Nat.le_of_ble_eq_true rfl) fun p170 q171 => ?_
        refine k_loadL rfl q171 rfl ?_
        refine k_bin rfl rfl rfl ?_
        refine k_nil ?_
        refine wpE_cond (p := (decide (y129 > y29.2))) rfl (fun g172 => ?_) (fun g172 => ?_)
        · have h := ctrue h g172
          refine e_reg ?_
          refine k_loadL f160 (ep_lp 0 [IV.str y18.Key, IV.int .i64 y18.Zone, v24, v26]) rfl ?_
          refine k_mov f168 ?_
          obtain ⟨y173, e174, h⟩ := obind h
          refine k_call (.cons rfl rfl (.cons rfl rfl .nil)) (s50 (cx0 := [IV.str y18.Key, IV.int .i64 y18.Zone, (IV.retag 1 v24), (IV.retag 1 v26)]) (R_api_Hours.mk (sv_retag q25) (sv_retag q27)) e174) (.inl rfl) ?_
          rintro _ rfl
          refine k_movT rfl ?_
          refine k_ext rfl rfl ?_
          refine k_ext rfl rfl ?_
          refine k_mov rfl ?_
          refine k_mov rfl ?_
          refine k_nil ?_
          refine e_reg ?_
          refine k_loadL f160 (ep_lp 0 [IV.str y18.Key, IV.int .i64 y18.Zone, v24, v26]) rfl ?_
          refine k_mov f168 ?_
          refine k_bin rfl rfl rfl ?_
          obtain ⟨y176, e177, h⟩ := obind h
          refine k_call (.cons rfl rfl (.cons rfl rfl .nil)) (s50 (cx0 := [IV.str y18.Key, IV.int .i64 y18.Zone, (IV.retag 1 v24), (IV.retag 1 v26)]) (R_api_Hours.mk (sv_retag q25) (sv_retag q27)) e177) (.inl rfl) ?_
          rintro _ rfl
          refine k_movT rfl ?_
          refine k_ext rfl rfl ?_
          refine k_ext rfl rfl ?_
          refine k_mov rfl ?_
          refine k_mov rfl ?_
          refine k_nil ?_
          refine e_reg ?_
          refine k_mov rfl ?_
          refine k_mov rfl ?_
          refine k_bslI (len := 2) (z := IV.int .i64 ((0 : Int))) (vs := [IV.int .i64 y173.2, IV.int .i64 y176.2]) (.cons rfl (.cons rfl .nil)) (by decide) rfl ?_
          have o179 : sv (Rep.int .i64) true (.lit 0 [IV.int .i64 y173.2, IV.int .i64 y176.2] 2) ([y173.2, y176.2] : List Int) := sv_lit true (⟨[IV.int .i64 y173.2], _, rfl, rfl, ⟨[IV.int .i64 y176.2], _, rfl, rfl, rfl⟩⟩) rfl
          obtain ⟨y180, e181, h⟩ := obind h
          refine k_call (.cons rfl rfl .nil) (s31 (sv_retag o179) e181) (.inl rfl) ?_
          rintro _ rfl
          refine k_bin rfl rfl rfl ?_
          refine k_mov rfl ?_
          refine gL fun σ183 e184 => ?_
          have k185 : Keep [2, 11, 13, 14, 15, 16, 17] 64 100 σ100 σ183 := by rw [e184]; repeat (first | exact k169 | refine Keep.upd ?_ rfl _)
          have f186 : σ183 4 = .v (.c (I (.lp 0 [IV.str y18.Key, IV.int .i64 y18.Zone, v24, v26]))) := (congrFun e184 4).trans f160
          have f187 : σ183 5 = .v (.c (I (.lp 0 [IV.int .i64 y29.2, IV.int .i64 y41.2]))) := (congrFun e184 5).trans f161
          have f188 : σ183 8 = V (.int .i64 u95) := (congrFun e184 8).trans f162
          have f189 : σ183 9 = V (.bool y97.1) := (congrFun e184 9).trans f163
          have f190 : σ183 10 = V (.int .i64 y97.2) := (congrFun e184 10).trans f164
          have f191 : σ183 11 = V (.int .i64 y151) := (congrFun e184 11).trans f155
          have f192 : σ183 62 = .v (.c ((I v55))) := (congrFun e184 62).trans f165
          have f193 : σ183 63 = V (.int .i64 ((List.length y52.1 : Int))) := (congrFun e184 63).trans f166
          have f194 : σ183 64 = V (.int .i64 w114) := (congrFun e184 64).trans f167
          have f195 : σ183 14 = V (.bool y173.1) := (congrFun e184 14).trans rfl
          have f196 : σ183 16 = V (.bool y176.1) := (congrFun e184 16).trans rfl
          have f197 : σ183 95 = V (.bool ((y180 != ((0 : Int))))) := (congrFun e184 95).trans rfl
          refine k_mid (fun σ' hp' _ => hp88 = hp' ∧ σ' 99 = V (.bool (((y180 != ((0 : Int))) || (y173.1 == y176.1)))) ∧ Keep [] 96 99 σ183 σ') ?_ ?_
          · rcases bt ((y180 != ((0 : Int)))) with g198 | g198
            · refine k_no (f197.trans (cgB g198)) rfl ?_
              refine k_no (f197.trans (cgB g198)) rfl ?_
              refine k_no (f197.trans (cgB g198)) rfl ?_
              refine k_pickT (f197.trans (cgB g198)) rfl ?_
              exact ⟨rfl, cgB (by rw [g198]; rfl), (by repeat (first | exact (Keep.refl _ _ _ _) | refine Keep.upd ?_ rfl _))⟩
            · refine k_yes (f197.trans (cgB g198)) ?_
              refine k_mov f195 ?_
              refine k_yes (f197.trans (cgB g198)) ?_
              refine k_mov f196 ?_
              refine k_yes (f197.trans (cgB g198)) ?_
              refine k_eqB rfl rfl ?_
              refine k_pickF (f197.trans (cgB g198)) rfl ?_
              exact ⟨rfl, cgB (by rw [g198]; rfl), (by repeat (first | exact (Keep.refl _ _ _ _) | refine Keep.upd ?_ rfl _))⟩
          rintro σ199 _ _ ⟨rfl, f201, k200⟩
          have f202 : σ199 4 = .v (.c (I (.lp 0 [IV.str y18.Key, IV.int .i64 y18.Zone, v24, v26]))) := (k200 4 rfl).trans f186
          have f203 : σ199 5 = .v (.c (I (.lp 0 [IV.int .i64 y29.2, IV.int .i64 y41.2]))) := (k200 5 rfl).trans f187
          have f204 : σ199 8 = V (.int .i64 u95) := (k200 8 rfl).trans f188
          have f205 : σ199 9 = V (.bool y97.1) := (k200 9 rfl).trans f189
          have f206 : σ199 10 = V (.int .i64 y97.2) := (k200 10 rfl).trans f190
          have f207 : σ199 11 = V (.int .i64 y151) := (k200 11 rfl).trans f191
          have f208 : σ199 62 = .v (.c ((I v55))) := (k200 62 rfl).trans f192
          have f209 : σ199 63 = V (.int .i64 ((List.length y52.1 : Int))) := (k200 63 rfl).trans f193
          have f210 : σ199 64 = V (.int .i64 w114) := (k200 64 rfl).trans f194
          have k211 : Keep [2, 11, 13, 14, 15, 16, 17] 64 100 σ100 σ199 := Keep.trans k185 (Keep.sub k200 rfl)
          refine k_nil ?_
          refine wpE_cond (p := ((y180 != ((0 : Int))) || (y173.1 == y176.1))) f201 (fun g212 => ?_) (fun g212 => ?_)
          · have h := ctrue h g212
            refine e_reg ?_
            refine k_mov rfl ?_
            refine k_nil ?_
            refine wpE_ret ?_
            obtain rfl := Option.some.inj h
            exact ⟨by decide, rfl, fun _ => e_ret (ct := 0) (.tmp rfl (back_sc rfl) .nil) rfl⟩
          · have h := cfalse h g212
            refine wpE_skip ?_
            show wpE _ _ _ _ _ _ _ _
            refine e_last ?_
            refine k_bin f210 rfl rfl ?_
            refine k_mov rfl ?_
            refine k_nil ?_
            obtain rfl := Option.some.inj h
            exact ⟨rfl, f207, rfl, (by repeat (first | exact k211 | refine Keep.upd ?_ rfl _)), rfl⟩
        · have h := cfalse h g172
          refine wpE_skip ?_
          show wpE _ _ _ _ _ _ _ _
          refine e_last ?_
          refine k_bin f167 rfl rfl ?_
          refine k_mov rfl ?_
          refine k_nil ?_
          obtain rfl := Option.some.inj h
          exact ⟨rfl, f155, rfl, (by repeat (first | exact k169 | refine Keep.upd ?_ rfl _)), rfl⟩
      · have h := cfalse h g128
        refine wpE_exit ?_
        obtain rfl := Option.some.inj h
        exact ⟨by decide, rfl, f115, (by repeat (first | exact k119 | refine Keep.upd ?_ rfl _)), rfl⟩
    rcases e111 with y213 | r1
    rotate_left
    · rintro _ _ _ _ ⟨rfl, hX⟩
      obtain rfl := Option.some.inj h
      exact hX 0
    rintro _ σ214 _ _ ⟨rfl, f218, k216, rfl⟩
    have f219 : σ214 9 = V (.bool y97.1) := (k216 9 rfl).trans f105
    have f220 : σ214 10 = V (.int .i64 y97.2) := (k216 10 rfl).trans f106
    show wpE _ _ _ _ _ _ _ _
    refine e_reg ?_
    refine k_mov f220 ?_
    refine k_bin rfl rfl rfl ?_
    refine k_mov rfl ?_
    refine gL fun σ221 e222 => ?_
    have f223 : σ221 9 = V (.bool y97.1) := (congrFun e222 9).trans f219
    have f224 : σ221 11 = V (.int .i64 y213) := (congrFun e222 11).trans f218
    have f225 : σ221 103 = V (.bool ((y97.2 == ((0 : Int))))) := (congrFun e222 103).trans rfl
    refine k_mid (fun σ' hp' _ => hp88 = hp' ∧ σ' 109 = V (.bool (((y97.2 == ((0 : Int))) && (y97.1 == (((Int.tmod y213 ((2 : Int)))) == ((1 : Int))))))) ∧ Keep [] 104 109 σ221 σ') ?_ ?_
    · rcases bt ((y97.2 == ((0 : Int)))) with g226 | g226
      · refine k_yes (f225.trans (cgB g226)) ?_
        refine k_mov f223 ?_
        refine k_yes (f225.trans (cgB g226)) ?_
        refine k_mov f224 ?_
        refine k_yes (f225.trans (cgB g226)) ?_
        refine k_rem rfl rfl (q := _) rfl ?_
        refine k_yes (f225.trans (cgB g226)) ?_
        refine k_bin rfl rfl rfl ?_
        refine k_yes (f225.trans (cgB g226)) ?_
        refine k_eqB rfl rfl ?_
        refine k_pickT (f225.trans (cgB g226)) rfl ?_
        exact ⟨rfl, cgB (by rw [g226]; rfl), (by repeat (first | exact (Keep.refl _ _ _ _) | refine Keep.upd ?_ rfl _))⟩
      · refine k_no (f225.trans (cgB g226)) rfl ?_
        refine k_no (f225.trans (cgB g226)) rfl ?_
        refine k_no (f225.trans (cgB g226)) rfl ?_
        refine k_no (f225.trans (cgB g226)) rfl ?_
        refine k_no (f225.trans (cgB g226)) rfl ?_
        refine k_pickF (f225.trans (cgB g226)) rfl ?_
        exact ⟨rfl, cgB (by rw [g226]; rfl), (by repeat (first | exact (Keep.refl _ _ _ _) | refine Keep.upd ?_ rfl _))⟩
    rintro σ227 _ _ ⟨rfl, f229, k228⟩
    refine k_mov f229 ?_
    refine gL fun σ230 e231 => ?_
    have f232 : σ230 110 = V (.bool (((y97.2 == ((0 : Int))) && (y97.1 == (((Int.tmod y213 ((2 : Int)))) == ((1 : Int))))))) := (congrFun e231 110).trans rfl
    obtain ⟨y237, e238, h⟩ := obind h
    refine k_mid (fun σ' hp' _ => hp88 = hp' ∧ σ' 112 = V (.bool y237) ∧ Keep [] 111 112 σ230 σ') ?_ ?_
    · rcases bt (((y97.2 == ((0 : Int))) && (y97.1 == (((Int.tmod y213 ((2 : Int)))) == ((1 : Int)))))) with g233 | g233
      · have h := ctrue e238 g233
        refine k_yes (f232.trans (cgB g233)) ?_
        obtain ⟨y234, e235, h⟩ := obind h
        refine k_call .nil (s18  e235) (.inl rfl) ?_
        rintro _ rfl
        refine k_pickT (f232.trans (cgB g233)) rfl ?_
        exact ⟨rfl, cgB (Option.some.inj h), (by repeat (first | exact (Keep.refl _ _ _ _) | refine Keep.upd ?_ rfl _))⟩
      · have h := cfalse e238 g233
        refine k_no (f232.trans (cgB g233)) rfl ?_
        refine k_pickF (f232.trans (cgB g233)) rfl ?_
        exact ⟨rfl, cgB (Option.some.inj h), (by repeat (first | exact (Keep.refl _ _ _ _) | refine Keep.upd ?_ rfl _))⟩
    rintro σ239 _ _ ⟨rfl, f241, k240⟩
    refine k_mov f241 ?_
    refine k_nil ?_
    refine wpE_ret ?_
    obtain rfl := Option.some.inj h
    exact e_ret (ct := 0) (.tmp rfl (back_sc rfl) .nil) rfl
end Go.Proofs.YtcbepglkfglclaaDoor
