/-
  The small code of functions comes to the Lean functions. Printed by a program of mine.
-/
import Derived.Test.YtcbepglkfglclaaDoorHM4Sa
namespace Go.Proofs.YtcbepglkfglclaaDoor
open Go Go.Abs
set_option maxRecDepth 100000
set_option maxHeartbeats 1000000
/-- hookflash/media.Write -/
theorem s20 {x0 : T_api_Packet} {cx0 : List IV} {r : List Int × Int} (hx0 : R_api_Packet.rp false cx0 x0) (h : F20_media_Write x0 = some r) : pc L 20 [.agg (cx0.map I)] false (P20 r) := by
  refine fn_pure (fn := ir20) rfl (Nat.le_of_ble_eq_true rfl) fun lent hl => ?_
  unfold F20_media_Write at h
  obtain ⟨v1, rfl, q2⟩ := R_api_Packet.inv hx0
  refine e_reg ?_
  refine k_box rfl rfl fun g3 hp4 k5 r6 => ?_
  refine k_mov rfl ?_
  refine k_mov rfl ?_
  refine k_nil ?_
  refine wpE_seq ?_
  refine e_reg ?_
  refine k_loadB rfl k5 rfl ?_
  obtain ⟨y7, e8, h⟩ := obind h
  refine k_call (.cons rfl rfl .nil) (s67 (cx0 := [IV.int .i64 x0.Type_, IV.int .i64 x0.Seq, IV.int .i64 x0.Time, IV.int .i64 x0.Source, IV.bool x0.Mark, (IV.retag 1 v1)]) (R_api_Packet.mk (sv_retag q2)) e8) (.inl rfl) ?_
  rintro _ rfl
  refine k_mov rfl ?_
  refine k_nil ?_
  refine e_reg ?_
  refine k_mov rfl ?_
  refine k_bin rfl rfl rfl ?_
  refine k_nil ?_
  refine wpE_cond (p := (y7 != ((0 : Int)))) rfl (fun g10 => ?_) (fun g10 => ?_)
  · have h := ctrue h g10
    refine e_reg ?_
    refine k_mov rfl ?_
    refine k_mov rfl ?_
    refine k_mov rfl ?_
    refine k_nil ?_
    refine wpE_ret ?_
    obtain rfl := Option.some.inj h
    exact e_ret (ct := 0) (.tmp rfl (back_c (backC_inl fun _ => sv_fresh (sv_nil (Rep.int .u8) true))) (.tmp rfl (back_sc rfl) .nil)) ⟨IV.nilS, rfl, (sv_weak (sv_nil (Rep.int .u8) true))⟩
  · have h := cfalse h g10
    refine wpE_skip ?_
    show wpE _ _ _ _ _ _ _ _
    refine e_reg ?_
    refine k_fadrB (o := 0) rfl k5 ?_
    refine k_loadB rfl k5 rfl ?_
    refine k_mov rfl ?_
    refine k_nil ?_
    refine wpE_seq ?_
    refine e_reg ?_
    refine k_fadrB (o := 4) rfl k5 ?_
    refine k_loadB rfl k5 rfl ?_
    refine k_nil ?_
    refine gE fun σ11 e12 => ?_
    have f13 : σ11 1 = .v (.c (.r (.ptr 1 g3 0))) := (congrFun e12 1).trans rfl
    have f14 : σ11 5 = V (.int .i64 x0.Type_) := (congrFun e12 5).trans rfl
    have f15 : σ11 15 = V (.bool x0.Mark) := (congrFun e12 15).trans rfl
    obtain ⟨y18, h17, h⟩ := obind h
    refine wpE_mono (Q := fun ex σ' hp' _ => ex = .normal ∧ σ' 5 = V (.int .i64 y18) ∧ Keep [] 5 17 σ11 σ' ∧ hp4 = hp') ?_ ?_
    · clear h; have h := h17
      refine wpE_cond (p := x0.Mark) f15 (fun g19 => ?_) (fun g19 => ?_)
      · have h := ctrue h g19
        refine e_last ?_
        refine k_mov f14 ?_
        refine k_bin rfl rfl rfl ?_
        refine k_mov rfl ?_
        obtain ⟨u20, e21, h⟩ := bnd_e h
        refine k_nil ?_
        have q0 := Option.some.inj h
        obtain rfl := q0
        exact ⟨rfl, (cgI e21), (by repeat (first | exact (Keep.refl _ _ _ _) | refine Keep.upd ?_ rfl _)), rfl⟩
      · have h := cfalse h g19
        refine wpE_skip ?_
        have q0 := Option.some.inj h
        obtain rfl := q0
        exact ⟨rfl, f14, (by repeat (first | exact (Keep.refl _ _ _ _) | refine Keep.upd ?_ rfl _)), rfl⟩
    rintro _ σ23 _ _ ⟨rfl, f22, k25, rfl⟩
    have f27 : σ23 1 = .v (.c (.r (.ptr 1 g3 0))) := (k25 1 rfl).trans f13
    show wpE _ _ _ _ _ _ _ _
    refine e_regT (by kernel_rfl) (by kernel_rfl) ?_
    refine t_n ?_
    refine k_mov f22 ?_
    refine k_nil ?_
    refine t_n ?_
    refine k_cvI rfl ?_
    refine k_nil ?_
    refine t_t ?_
    refine k_bslIN (E := (Rep.int .u8)) (f := true) (len := 2) (z := IV.int .u8 ((0 : Int))) (vs := [IV.int .u8 ((128 : Int)), IV.int .u8 ((IntKind.wrap .u8 y18))]) (xs := ([(128 : Int), (IntKind.wrap .u8 y18)] : List Int)) (.cons rfl (.cons rfl .nil)) (by decide) rfl (⟨[IV.int .u8 ((128 : Int))], _, rfl, rfl, ⟨[IV.int .u8 ((IntKind.wrap .u8 y18))], _, rfl, rfl, rfl⟩⟩) rfl rfl fun a29 hp30 o31 n33 r32 => ?_
    have k34 := (r32 1 (by decide)).trans k5
    refine k_nil ⟨r32, ?_⟩
    refine t_r (S := [1]) (dep_fadr f27 (List.mem_singleton.2 rfl)) ?_
    refine k_fadrB (o := 1) f27 k34 ?_
    refine k_nil ?_
    refine t_r (S := [1]) (dep_load rfl (List.mem_singleton.2 rfl)) ?_
    refine k_loadB rfl k34 rfl ?_
    refine k_nil ?_
    obtain ⟨y35, e36, h⟩ := obind h
    refine t_t ?_
    refine k_callG (E := (Rep.int .u8)) (ts := []) (fun _ _ h => h) rfl o31 n33 (fun _ => (.cons rfl rfl (.cons rfl rfl .nil))) rfl (fun _ _ h0 => g68 h0  e36) (fun rs h ⟨a, q1, q2, q3⟩ => ⟨a, q1, q2, q3⟩) fun a37 hp38 o39 n40 r41 => ?_
    have k42 := (r41 1 (by decide)).trans k34
    refine k_nil ⟨r41, ?_⟩
    refine t_r (S := [1]) (dep_fadr f27 (List.mem_singleton.2 rfl)) ?_
    refine k_fadrB (o := 2) f27 k42 ?_
    refine k_nil ?_
    refine t_r (S := [1]) (dep_load rfl (List.mem_singleton.2 rfl)) ?_
    refine k_loadB rfl k42 rfl ?_
    refine k_nil ?_
    obtain ⟨y43, e44, h⟩ := obind h
    refine t_t ?_
    refine k_callG (E := (Rep.int .u8)) (ts := []) (fun _ _ h => h) rfl o39 n40 (fun _ => (.cons rfl rfl (.cons rfl rfl .nil))) rfl (fun _ _ h0 => g68 h0  e44) (fun rs h ⟨a, q1, q2, q3⟩ => ⟨a, q1, q2, q3⟩) fun a45 hp46 o47 n48 r49 => ?_
    have k50 := (r49 1 (by decide)).trans k42
    refine k_nil ⟨r49, ?_⟩
    refine t_r (S := [1]) (dep_fadr f27 (List.mem_singleton.2 rfl)) ?_
    refine k_fadrB (o := 3) f27 k50 ?_
    refine k_nil ?_
    refine t_r (S := [1]) (dep_load rfl (List.mem_singleton.2 rfl)) ?_
    refine k_loadB rfl k50 rfl ?_
    refine k_nil ?_
    obtain ⟨y51, e52, h⟩ := obind h
    refine t_t ?_
    refine k_callG (E := (Rep.int .u8)) (ts := []) (fun _ _ h => h) rfl o47 n48 (fun _ => (.cons rfl rfl (.cons rfl rfl .nil))) rfl (fun _ _ h0 => g68 h0  e52) (fun rs h ⟨a, q1, q2, q3⟩ => ⟨a, q1, q2, q3⟩) fun a53 hp54 o55 n56 r57 => ?_
    have k58 := (r57 1 (by decide)).trans k50
    refine k_nil ⟨r57, ?_⟩
    refine t_n ?_
    refine k_mov rfl ?_
    refine k_nil ?_
    refine t_nil ?_
    refine e_reg ?_
    refine k_mov rfl ?_
    refine k_fadrB (o := 5) f27 k58 ?_
    refine k_loadB rfl k58 rfl ?_
    obtain ⟨y64, e65, h⟩ := obind h
    refine k_appX (E := (Rep.int .u8)) (f := false) rfl o55.weak n56 rfl (sv.any [] _ q2) e65 rfl fun a59 hp60 ct61 o62 n66 r63 => ?_
    refine k_mov rfl ?_
    refine k_mov rfl ?_
    refine k_nil ?_
    refine wpE_ret ?_
    obtain ⟨v67, q68, q69⟩ := (o62.any).back lent (fun q => absurd (hl q) (by decide)) [] rfl
    obtain rfl := Option.some.inj h
    exact e_ret (ct := 0) (.tmp rfl (back_c q68) (.tmp rfl (back_sc rfl) .nil)) ⟨v67, rfl, q69⟩
/-- hookflash/media.get -/
theorem s69 {x0 : List Int} {vx0 : IV} {r : Int} (hx0 : sv (Rep.int .u8) false vx0 x0) (h : F69_media_get x0 = some r) : pc L 69 [.c (I vx0)] true (P69 r) := by
  refine fn_pure (fn := ir69) rfl (Nat.le_of_ble_eq_true rfl) fun lent hl => ?_
  unfold F69_media_get at h
  refine e_reg ?_
  refine k_mov rfl ?_
  refine k_nil ?_
  refine e_reg ?_
  refine k_mov rfl ?_
  refine k_nil ?_
  refine wpE_seq ?_
  refine e_reg ?_
  refine k_mov rfl ?_
  refine k_len rfl (sv.any [] _ hx0) ?_
  refine k_mov rfl ?_
  refine k_nil ?_
  refine wpE_block ?_
  refine gE fun σ1 e2 => ?_
  have f3 : σ1 3 = V (.int .i64 ((0 : Int))) := (congrFun e2 3).trans rfl
  have f4 : σ1 6 = .v (.c ((I vx0))) := (congrFun e2 6).trans rfl
  have f5 : σ1 7 = V (.int .i64 ((List.length x0 : Int))) := (congrFun e2 7).trans rfl
  have f6 : σ1 8 = V (.int .i64 ((0 : Int))) := (congrFun e2 8).trans rfl
  obtain ⟨y28, h8, h⟩ := obind h
  refine wpE_mono (e_loop h8 (I := fun s σ' hp' _ => σ' 3 = V (.int .i64 s.1) ∧ σ' 8 = V (.int .i64 s.2) ∧ Keep [3, 5] 8 17 σ1 σ' ∧ [] = hp') (X := fun e ex σ' hp' _ => ex = .exit 0 ∧ σ' 3 = V (.int .i64 e) ∧ Keep [3, 5] 8 17 σ1 σ' ∧ [] = hp') ⟨f3, f6, Keep.refl _ _ _ _, rfl⟩ ?_) ?_
  · clear h
    rintro ⟨w9, w10⟩ o σ13 _ _ h ⟨f11, f12, k15, rfl⟩
    have h : F69_media_get_l0 x0 w9 w10 = some o := h; unfold F69_media_get_l0 at h
    have f17 : σ13 6 = .v (.c ((I vx0))) := (k15 6 rfl).trans f4
    have f18 : σ13 7 = V (.int .i64 ((List.length x0 : Int))) := (k15 7 rfl).trans f5
    show wpE _ _ _ _ _ _ _ _
    refine e_reg ?_
    refine k_bin f12 f18 rfl ?_
    refine k_nil ?_
    refine wpE_seq ?_
    refine wpE_cond (p := (decide (w10 < ((List.length x0 : Int))))) rfl (fun g19 => ?_) (fun g19 => ?_)
    · have h := ctrue h g19
      refine wpE_skip ?_
      show wpE _ _ _ _ _ _ _ _
      refine wpE_seq ?_
      refine wpE_block ?_
      refine e_reg ?_
      obtain ⟨y20, e21, h⟩ := obind h
      refine k_iadrL f17 (sv.any [] _ hx0) f12 e21 rfl fun p22 c23 q24 h25 => ?_
      obtain rfl : c23 = [IV.int .u8 y20] := h25
      refine k_loadL rfl q24 rfl ?_
      refine k_mov rfl ?_
      refine k_nil ?_
      refine e_last ?_
      refine k_mov f11 ?_
      refine k_bin rfl rfl rfl ?_
      refine k_mov rfl ?_
      refine k_cvI rfl ?_
      refine k_bin rfl rfl rfl ?_
      refine k_mov rfl ?_
      obtain ⟨u26, e27, h⟩ := bnd_e h
      refine k_nil ?_
      show wpE _ _ _ _ _ _ _ _
      refine e_last ?_
      refine k_bin f12 rfl rfl ?_
      refine k_mov rfl ?_
      refine k_nil ?_
      obtain rfl := Option.some.inj h
      exact ⟨rfl, (cgI e27), rfl, (by repeat (first | exact k15 | refine Keep.upd ?_ rfl _)), rfl⟩
    · have h := cfalse h g19
      refine wpE_exit ?_
      obtain rfl := Option.some.inj h
      exact ⟨by decide, rfl, f11, (by repeat (first | exact k15 | refine Keep.upd ?_ rfl _)), rfl⟩
  rintro _ σ29 _ _ ⟨rfl, f33, k31, rfl⟩
  show wpE _ _ _ _ _ _ _ _
  refine e_reg ?_
  refine k_mov f33 ?_
  refine k_mov rfl ?_
  refine k_nil ?_
  refine wpE_ret ?_
  obtain rfl := Option.some.inj h
  exact e_ret (ct := 0) (.tmp rfl (back_sc rfl) .nil) rfl
/-- hookflash/media.ReadPacket -/
theorem s21 {x0 : List Int} {vx0 : IV} {r : T_api_Packet × Int} (hx0 : sv (Rep.int .u8) false vx0 x0) (h : F21_media_ReadPacket x0 = some r) : pc L 21 [.c (I vx0)] false (P21 r) := by
  refine fn_pure (fn := ir21) rfl (Nat.le_of_ble_eq_true rfl) fun lent hl => ?_
  unfold F21_media_ReadPacket at h
  refine e_reg ?_
  refine k_alloc fun g1 hp2 k3 r4 => ?_
  refine k_mov rfl ?_
  refine k_nil ?_
  refine wpE_seq ?_
  refine e_reg ?_
  refine k_mov rfl ?_
  refine k_len rfl (sv.any [] _ hx0) ?_
  refine k_bin rfl rfl rfl ?_
  refine k_mov rfl ?_
  refine gL fun σ5 e6 => ?_
  have f7 : σ5 0 = .v (.c ((I vx0))) := (congrFun e6 0).trans rfl
  have f8 : σ5 2 = .v (.c (.r (.ptr 2 g1 0))) := (congrFun e6 2).trans rfl
  have f9 : σ5 7 = V (.bool ((decide (((List.length x0 : Int)) < ((12 : Int)))))) := (congrFun e6 7).trans rfl
  obtain ⟨y17, e18, h⟩ := obind h
  refine k_mid (fun σ' hp' _ => hp2 = hp' ∧ σ' 12 = V (.bool y17) ∧ Keep [] 8 12 σ5 σ') ?_ ?_
  · rcases bt ((decide (((List.length x0 : Int)) < ((12 : Int))))) with g10 | g10
    · have h := ctrue e18 g10
      refine k_no (f9.trans (cgB g10)) rfl ?_
      refine k_no (f9.trans (cgB g10)) rfl ?_
      refine k_no (f9.trans (cgB g10)) rfl ?_
      refine k_no (f9.trans (cgB g10)) rfl ?_
      refine k_pickT (f9.trans (cgB g10)) rfl ?_
      exact ⟨rfl, cgB (Option.some.inj h), (by repeat (first | exact (Keep.refl _ _ _ _) | refine Keep.upd ?_ rfl _))⟩
    · have h := cfalse e18 g10
      refine k_yes (f9.trans (cgB g10)) ?_
      refine k_mov f7 ?_
      refine k_yes (f9.trans (cgB g10)) ?_
      obtain ⟨y11, e12, h⟩ := obind h
      refine k_iadrL rfl (sv.any [] _ hx0) rfl e12 rfl fun p13 c14 q15 h16 => ?_
      obtain rfl : c14 = [IV.int .u8 y11] := h16
      refine k_yes (f9.trans (cgB g10)) ?_
      refine k_loadL rfl q15 rfl ?_
      refine k_yes (f9.trans (cgB g10)) ?_
      refine k_bin rfl rfl rfl ?_
      refine k_pickF (f9.trans (cgB g10)) rfl ?_
      exact ⟨rfl, cgB (Option.some.inj h), (by repeat (first | exact (Keep.refl _ _ _ _) | refine Keep.upd ?_ rfl _))⟩
  rintro σ19 _ _ ⟨rfl, f21, k20⟩
  have f22 : σ19 0 = .v (.c ((I vx0))) := (k20 0 rfl).trans f7
  have f23 : σ19 2 = .v (.c (.r (.ptr 2 g1 0))) := (k20 2 rfl).trans f8
  refine k_nil ?_
  refine wpE_cond (p := y17) f21 (fun g24 => ?_) (fun g24 => ?_)
  · have h := ctrue h g24
    refine e_reg ?_
    refine k_build .nil rfl ?_
    refine k_storeB f23 rfl k3 rfl fun hp25 k26 r27 => ?_
    refine k_mov rfl ?_
    refine k_nil ?_
    refine wpE_ret ?_
    obtain rfl := Option.some.inj h
    exact e_ret (ct := 0) (.cell f23 k26 rfl (BackP.agg (.cons (backC_inl fun _ => rfl) (.cons (backC_inl fun _ => rfl) (.cons (backC_inl fun _ => rfl) (.cons (backC_inl fun _ => rfl) (.cons (backC_inl fun _ => rfl) (.cons (backC_inl fun _ => sv_fresh (sv_nil (Rep.int .u8) true)) .nil))))))) (.tmp rfl (back_sc rfl) .nil)) ⟨[IV.int .i64 ((0 : Int)), IV.int .i64 ((0 : Int)), IV.int .i64 ((0 : Int)), IV.int .i64 ((0 : Int)), IV.bool false, IV.nilS], rfl, (R_api_Packet.mk (sv_weak (sv_nil (Rep.int .u8) true)))⟩
  · have h := cfalse h g24
    refine wpE_skip ?_
    show wpE _ _ _ _ _ _ _ _
    refine wpE_seq ?_
    refine e_reg ?_
    refine k_mov f22 ?_
    refine k_len rfl (sv.any [] _ hx0) ?_
    refine k_bin rfl rfl rfl ?_
    refine k_bin rfl rfl rfl ?_
    refine k_nil ?_
    refine wpE_cond (p := (decide (((IntKind.wrap .i64 (((List.length x0 : Int)) - ((12 : Int))))) > ((1000 : Int))))) rfl (fun g28 => ?_) (fun g28 => ?_)
    · have h := ctrue h g28
      refine e_reg ?_
      refine k_build .nil rfl ?_
      refine k_storeB f23 rfl k3 rfl fun hp29 k30 r31 => ?_
      refine k_mov rfl ?_
      refine k_nil ?_
      refine wpE_ret ?_
      obtain rfl := Option.some.inj h
      exact e_ret (ct := 0) (.cell f23 k30 rfl (BackP.agg (.cons (backC_inl fun _ => rfl) (.cons (backC_inl fun _ => rfl) (.cons (backC_inl fun _ => rfl) (.cons (backC_inl fun _ => rfl) (.cons (backC_inl fun _ => rfl) (.cons (backC_inl fun _ => sv_fresh (sv_nil (Rep.int .u8) true)) .nil))))))) (.tmp rfl (back_sc rfl) .nil)) ⟨[IV.int .i64 ((0 : Int)), IV.int .i64 ((0 : Int)), IV.int .i64 ((0 : Int)), IV.int .i64 ((0 : Int)), IV.bool false, IV.nilS], rfl, (R_api_Packet.mk (sv_weak (sv_nil (Rep.int .u8) true)))⟩
    · have h := cfalse h g28
      refine wpE_skip ?_
      show wpE _ _ _ _ _ _ _ _
      refine e_regT (by kernel_rfl) (by kernel_rfl) ?_
      refine t_n ?_
      refine k_mov f22 ?_
      refine k_nil ?_
      obtain ⟨y32, e33, h⟩ := obind h
      refine t_r (S := []) (dep_iadr rfl (sa.lies (hp := hp2) (sv.any [] _ hx0))) ?_
      refine k_iadrL rfl (sv.any [] _ hx0) rfl e33 rfl fun p34 c35 q36 h37 => ?_
      obtain rfl : c35 = [IV.int .u8 y32] := h37
      refine k_nil ?_
      refine t_r (S := []) (dep_load rfl (ep.lies q36)) ?_
      refine k_loadL rfl q36 rfl ?_
      refine k_nil ?_
      refine t_n ?_
      refine k_bin rfl rfl rfl ?_
      refine k_nil ?_
      refine t_n ?_
      refine k_cvI rfl ?_
      refine k_nil ?_
      refine t_n ?_
      refine k_mov f22 ?_
      refine k_nil ?_
      obtain ⟨y38, e39, h⟩ := obind h
      refine t_r (S := []) (dep_iadr rfl (sa.lies (hp := hp2) (sv.any [] _ hx0))) ?_
      refine k_iadrL rfl (sv.any [] _ hx0) rfl e39 rfl fun p40 c41 q42 h43 => ?_
      obtain rfl : c41 = [IV.int .u8 y38] := h43
      refine k_nil ?_
      refine t_r (S := []) (dep_load rfl (ep.lies q42)) ?_
      refine k_loadL rfl q42 rfl ?_
      refine k_nil ?_
      refine t_n ?_
      refine k_bin rfl rfl rfl ?_
      refine k_nil ?_
      refine t_n ?_
      refine k_mov f22 ?_
      refine k_nil ?_
      obtain ⟨y44, e45, h⟩ := obind h
      refine t_r (S := []) (dep_slc rfl (sa.lies (hp := hp2) (sv.any [] _ hx0))) ?_
      refine k_slcA rfl (sv.any [] _ hx0) (.some rfl) (.some rfl) e45 rfl fun a46 o47 => ?_
      obtain ⟨v48, rfl, q49⟩ := sa_iv o47
      refine k_nil ?_
      obtain ⟨y50, e51, h⟩ := obind h
      refine t_r (S := []) (dep_call fun _ _ => (.cons rfl rfl .nil)) ?_
      refine k_call (.cons rfl rfl .nil) (s69 (sv_retag q49) e51) (.inl rfl) ?_
      rintro _ rfl
      refine k_nil ?_
      refine t_n ?_
      refine k_mov f22 ?_
      refine k_nil ?_
      obtain ⟨y53, e54, h⟩ := obind h
      refine t_r (S := []) (dep_slc rfl (sa.lies (hp := hp2) (sv.any [] _ hx0))) ?_
      refine k_slcA rfl (sv.any [] _ hx0) (.some rfl) (.some rfl) e54 rfl fun a55 o56 => ?_
      obtain ⟨v57, rfl, q58⟩ := sa_iv o56
      refine k_nil ?_
      obtain ⟨y59, e60, h⟩ := obind h
      refine t_r (S := []) (dep_call fun _ _ => (.cons rfl rfl .nil)) ?_
      refine k_call (.cons rfl rfl .nil) (s69 (sv_retag q58) e60) (.inl rfl) ?_
      rintro _ rfl
      refine k_nil ?_
      refine t_n ?_
      refine k_mov f22 ?_
      refine k_nil ?_
      obtain ⟨y62, e63, h⟩ := obind h
      refine t_r (S := []) (dep_slc rfl (sa.lies (hp := hp2) (sv.any [] _ hx0))) ?_
      refine k_slcA rfl (sv.any [] _ hx0) (.some rfl) (.some rfl) e63 rfl fun a64 o65 => ?_
      obtain ⟨v66, rfl, q67⟩ := sa_iv o65
      refine k_nil ?_
      obtain ⟨y68, e69, h⟩ := obind h
      refine t_r (S := []) (dep_call fun _ _ => (.cons rfl rfl .nil)) ?_
      refine k_call (.cons rfl rfl .nil) (s69 (sv_retag q67) e69) (.inl rfl) ?_
      rintro _ rfl
      refine k_nil ?_
      refine t_n ?_
      refine k_mov f22 ?_
      refine k_nil ?_
      obtain ⟨y71, e72, h⟩ := obind h
      refine t_r (S := []) (dep_slc rfl (sa.lies (hp := hp2) (sv.any [] _ hx0))) ?_
      refine k_slcA rfl (sv.any [] _ hx0) (.some rfl) .none e72 rfl fun a73 o74 => ?_
      obtain ⟨v75, rfl, q76⟩ := sa_iv o74
      refine k_nil ?_
      obtain ⟨y82, e83, h⟩ := obind h
      refine t_t ?_
      refine k_app (E := (Rep.int .u8)) (f := false) rfl (so_nil [] _ false _) rfl (sv.any [] _ q76) e83 rfl fun a77 hp78 ct79 o80 r81 => ?_
      have k84 := (r81 2 (by decide)).trans k3
      refine k_nil ⟨r81, ?_⟩
      refine t_n ?_
      refine k_build (.cons rfl (.cons rfl (.cons rfl (.cons rfl (.cons rfl (.cons rfl .nil)))))) rfl ?_
      refine k_nil ?_
      refine t_t ?_
      refine k_storeB f23 rfl k84 rfl fun hp85 k86 r87 => ?_
      have o88 := o80.fr r87 rfl
      refine k_nil ⟨r87, ?_⟩
      refine t_n ?_
      refine k_mov rfl ?_
      refine k_nil ?_
      refine t_nil ?_
      refine wpE_ret ?_
      obtain ⟨v89, q90, q91⟩ := (o88.any).back lent (fun q => absurd (hl q) (by decide)) [] rfl
      obtain rfl := Option.some.inj h
      exact e_ret (ct := 0) (.cell f23 k86 rfl (BackP.agg (.cons (backC_inl fun _ => rfl) (.cons (backC_inl fun _ => rfl) (.cons (backC_inl fun _ => rfl) (.cons (backC_inl fun _ => rfl) (.cons (backC_inl fun _ => rfl) (.cons q90 .nil))))))) (.tmp rfl (back_sc rfl) .nil)) ⟨[IV.int .i64 ((IntKind.wrap .i64 ((gand .u8 y32 ((127 : Int)))))), IV.int .i64 y50, IV.int .i64 y59, IV.int .i64 y68, IV.bool ((decide (y38 ≥ ((128 : Int))))), v89], rfl, (R_api_Packet.mk q91)⟩
/-- slices.Equal[[]byte,byte] -/
theorem s24 {x0 : List Int} {vx0 : IV} {x1 : List Int} {vx1 : IV} {r : Bool} (hx0 : sv (Rep.int .u8) false vx0 x0) (hx1 : sv (Rep.int .u8) false vx1 x1) (h : F24_slices_Equal_byte_byte x0 x1 = some r) : pc L 24 [.c (I vx0), .c (I vx1)] true (P24 r) := by
  refine fn_pure (fn := ir24) rfl (Nat.le_of_ble_eq_true rfl) fun lent hl => ?_
  unfold F24_slices_Equal_byte_byte at h
  refine e_reg ?_
  refine k_mov rfl ?_
  refine k_nil ?_
  refine wpE_seq ?_
  refine e_reg ?_
  refine k_mov rfl ?_
  refine k_len rfl (sv.any [] _ hx0) ?_
  refine k_mov rfl ?_
  refine k_len rfl (sv.any [] _ hx1) ?_
  refine k_bin rfl rfl rfl ?_
  refine k_nil ?_
  refine wpE_cond (p := (((List.length x0 : Int)) != ((List.length x1 : Int)))) rfl (fun g1 => ?_) (fun g1 => ?_)
  · have h := ctrue h g1
    refine e_reg ?_
    refine k_mov rfl ?_
    refine k_nil ?_
    refine wpE_ret ?_
    obtain rfl := Option.some.inj h
    exact e_ret (ct := 0) (.tmp rfl (back_sc rfl) .nil) rfl
  · have h := cfalse h g1
    refine wpE_skip ?_
    show wpE _ _ _ _ _ _ _ _
    refine wpE_seq ?_
    refine e_reg ?_
    refine k_mov rfl ?_
    refine k_len rfl (sv.any [] _ hx0) ?_
    refine k_mov rfl ?_
    refine k_nil ?_
    refine wpE_block ?_
    refine gE fun σ2 e3 => ?_
    have f4 : σ2 0 = .v (.c ((I vx0))) := (congrFun e3 0).trans rfl
    have f5 : σ2 1 = .v (.c ((I vx1))) := (congrFun e3 1).trans rfl
    have f6 : σ2 12 = V (.int .i64 ((List.length x0 : Int))) := (congrFun e3 12).trans rfl
    have f7 : σ2 13 = V (.int .i64 ((0 : Int))) := (congrFun e3 13).trans rfl
    obtain ⟨e8, h9, h⟩ := lret_e h
    refine wpE_mono (e_loop h9 (I := fun s σ' hp' _ => σ' 13 = V (.int .i64 s) ∧ Keep [4, 5] 13 25 σ2 σ' ∧ [] = hp') (X := fun e ex σ' hp' _ => match e with | .inl e => ex = .exit 0 ∧ Keep [4, 5] 13 25 σ2 σ' ∧ [] = hp' | .inr r => ex = .ret ∧ ∀ ct, atEnd 26 [Res.tmp 4] (fin lent (P24 r)) .ret σ' hp' ct) ⟨f7, Keep.refl _ _ _ _, rfl⟩ ?_) ?_
    · clear h
      rintro w10 o σ12 _ _ h ⟨f11, k14, rfl⟩
      have h : F24_slices_Equal_byte_byte_l0 x0 x1 w10 = some o := h; unfold F24_slices_Equal_byte_byte_l0 at h
      have f16 : σ12 0 = .v (.c ((I vx0))) := (k14 0 rfl).trans f4
      have f17 : σ12 1 = .v (.c ((I vx1))) := (k14 1 rfl).trans f5
      have f18 : σ12 12 = V (.int .i64 ((List.length x0 : Int))) := (k14 12 rfl).trans f6
      show wpE _ _ _ _ _ _ _ _
      refine e_reg ?_
      refine k_bin f11 f18 rfl ?_
      refine k_nil ?_
      refine wpE_seq ?_
      refine wpE_cond (p := (decide (w10 < ((List.length x0 : Int))))) rfl (fun g19 => ?_) (fun g19 => ?_)
      · have h := ctrue h g19
        refine wpE_skip ?_
        show wpE _ _ _ _ _ _ _ _
        refine wpE_seq ?_
        refine wpE_block ?_
        refine e_reg ?_
        refine k_mov f11 ?_
        refine k_mov rfl ?_
        refine k_nil ?_
        refine e_regD (by kernel_rfl) (by kernel_rfl) ?_
        refine k_mov f16 ?_
        refine k_mov rfl ?_
        obtain ⟨y20, e21, h⟩ := obind h
        refine k_iadrL rfl (sv.any [] _ hx0) rfl e21 rfl fun p22 c23 q24 h25 => ?_
        obtain rfl : c23 = [IV.int .u8 y20] := h25
        refine k_loadL rfl q24 rfl ?_
        refine k_mov f17 ?_
        refine k_mov rfl ?_
        obtain ⟨y26, e27, h⟩ := obind h
        refine k_iadrL rfl (sv.any [] _ hx1) rfl e27 rfl fun p28 c29 q30 h31 => ?_
        obtain rfl : c29 = [IV.int .u8 y26] := h31
        refine k_loadL rfl q30 rfl ?_
        refine k_bin rfl rfl rfl ?_
        refine k_nil ?_
        refine wpE_cond (p := (y20 != y26)) rfl (fun g32 => ?_) (fun g32 => ?_)
        · have h := ctrue h g32
          refine e_reg ?_
          refine k_mov rfl ?_
          refine k_nil ?_
          refine wpE_ret ?_
          obtain rfl := Option.some.inj h
          exact ⟨by decide, rfl, fun _ => e_ret (ct := 0) (.tmp rfl (back_sc rfl) .nil) rfl⟩
        · have h := cfalse h g32
          refine wpE_skip ?_
          show wpE _ _ _ _ _ _ _ _
          refine e_last ?_
          refine k_bin f11 rfl rfl ?_
          refine k_mov rfl ?_
          refine k_nil ?_
          obtain rfl := Option.some.inj h
          exact ⟨rfl, rfl, (by repeat (first | exact k14 | refine Keep.upd ?_ rfl _)), rfl⟩
      · have h := cfalse h g19
        refine wpE_exit ?_
        obtain rfl := Option.some.inj h
        exact ⟨by decide, rfl, (by repeat (first | exact k14 | refine Keep.upd ?_ rfl _)), rfl⟩
    rcases e8 with _ | r1
    rotate_left
    · rintro _ _ _ _ ⟨rfl, hX⟩
      obtain rfl := Option.some.inj h
      exact hX 0
    rintro _ σ33 _ _ ⟨rfl, k35, rfl⟩
    show wpE _ _ _ _ _ _ _ _
    refine e_reg ?_
    refine k_mov rfl ?_
    refine k_nil ?_
    refine wpE_ret ?_
    obtain rfl := Option.some.inj h
    exact e_ret (ct := 0) (.tmp rfl (back_sc rfl) .nil) rfl
/-- hookflash/flashref2.SamePacket -/
theorem s22 {x0 : T_api_Packet} {cx0 : List IV} {x1 : T_api_Packet} {cx1 : List IV} {r : Bool} (hx0 : R_api_Packet.rp false cx0 x0) (hx1 : R_api_Packet.rp false cx1 x1) (h : F22_flashref2_SamePacket x0 x1 = some r) : pc L 22 [.agg (cx0.map I), .agg (cx1.map I)] true (P22 r) := by
  refine fn_pure (fn := ir22) rfl (Nat.le_of_ble_eq_true rfl) fun lent hl => ?_
  unfold F22_flashref2_SamePacket at h
  obtain ⟨v1, rfl, q2⟩ := R_api_Packet.inv hx0
  obtain ⟨v3, rfl, q4⟩ := R_api_Packet.inv hx1
  refine e_reg ?_
  refine k_box rfl rfl fun g5 hp6 k7 r8 => ?_
  refine k_box rfl rfl fun g9 hp10 k11 r12 => ?_
  have k13 := (r12 2 (by decide)).trans k7
  refine k_mov rfl ?_
  refine k_nil ?_
  refine e_reg ?_
  refine k_fadrB (o := 0) rfl k13 ?_
  refine k_loadB rfl k13 rfl ?_
  refine k_fadrB (o := 1) rfl k13 ?_
  refine k_loadB rfl k13 rfl ?_
  refine k_fadrB (o := 2) rfl k13 ?_
  refine k_loadB rfl k13 rfl ?_
  refine k_fadrB (o := 3) rfl k13 ?_
  refine k_loadB rfl k13 rfl ?_
  refine k_build (.cons rfl (.cons rfl (.cons rfl (.cons rfl .nil)))) rfl ?_
  refine k_fadrB (o := 0) rfl k11 ?_
  refine k_loadB rfl k11 rfl ?_
  refine k_fadrB (o := 1) rfl k11 ?_
  refine k_loadB rfl k11 rfl ?_
  refine k_fadrB (o := 2) rfl k11 ?_
  refine k_loadB rfl k11 rfl ?_
  refine k_fadrB (o := 3) rfl k11 ?_
  refine k_loadB rfl k11 rfl ?_
  refine k_build (.cons rfl (.cons rfl (.cons rfl (.cons rfl .nil)))) rfl ?_
  refine k_eqv (b := (x0.Type_ == x1.Type_ && (x0.Seq == x1.Seq && (x0.Time == x1.Time && (x0.Source == x1.Source && true))))) rfl rfl rfl ?_
  refine k_mov rfl ?_
  refine gL fun σ14 e15 => ?_
  have f16 : σ14 2 = .v (.c (.r (.ptr 2 g5 0))) := (congrFun e15 2).trans rfl
  have f17 : σ14 3 = .v (.c (.r (.ptr 3 g9 0))) := (congrFun e15 3).trans rfl
  have f18 : σ14 24 = V (.bool ((x0.Type_ == x1.Type_ && (x0.Seq == x1.Seq && (x0.Time == x1.Time && (x0.Source == x1.Source && true)))))) := (congrFun e15 24).trans rfl
  refine k_mid (fun σ' hp' _ => hp10 = hp' ∧ σ' 30 = V (.bool (((x0.Type_ == x1.Type_ && (x0.Seq == x1.Seq && (x0.Time == x1.Time && (x0.Source == x1.Source && true)))) && (x0.Mark == x1.Mark)))) ∧ Keep [] 25 30 σ14 σ') ?_ ?_
  · rcases bt ((x0.Type_ == x1.Type_ && (x0.Seq == x1.Seq && (x0.Time == x1.Time && (x0.Source == x1.Source && true))))) with g19 | g19
    · refine k_yes (f18.trans (cgB g19)) ?_
      refine k_fadrB (o := 4) f16 k13 ?_
      refine k_yes (f18.trans (cgB g19)) ?_
      refine k_loadB rfl k13 rfl ?_
      refine k_yes (f18.trans (cgB g19)) ?_
      refine k_fadrB (o := 4) f17 k11 ?_
      refine k_yes (f18.trans (cgB g19)) ?_
      refine k_loadB rfl k11 rfl ?_
      refine k_yes (f18.trans (cgB g19)) ?_
      refine k_eqB rfl rfl ?_
      refine k_pickT (f18.trans (cgB g19)) rfl ?_
      exact ⟨rfl, cgB (by rw [g19]; rfl), (by repeat (first | exact (Keep.refl _ _ _ _) | refine Keep.upd ?_ rfl _))⟩
    · refine k_no (f18.trans (cgB g19)) rfl ?_
      refine k_no (f18.trans (cgB g19)) rfl ?_
      refine k_no (f18.trans (cgB g19)) rfl ?_
      refine k_no (f18.trans (cgB g19)) rfl ?_
      refine k_no (f18.trans (cgB g19)) rfl ?_
      refine k_pickF (f18.trans (cgB g19)) rfl ?_
      exact ⟨rfl, cgB (by rw [g19]; rfl), (by repeat (first | exact (Keep.refl _ _ _ _) | refine Keep.upd ?_ rfl _))⟩
  rintro σ20 _ _ ⟨rfl, f22, k21⟩
  have f23 : σ20 2 = .v (.c (.r (.ptr 2 g5 0))) := (k21 2 rfl).trans f16
  have f24 : σ20 3 = .v (.c (.r (.ptr 3 g9 0))) := (k21 3 rfl).trans f17
  refine k_mov f22 ?_
  refine gL fun σ25 e26 => ?_
  have f27 : σ25 2 = .v (.c (.r (.ptr 2 g5 0))) := (congrFun e26 2).trans f23
  have f28 : σ25 3 = .v (.c (.r (.ptr 3 g9 0))) := (congrFun e26 3).trans f24
  have f29 : σ25 31 = V (.bool (((x0.Type_ == x1.Type_ && (x0.Seq == x1.Seq && (x0.Time == x1.Time && (x0.Source == x1.Source && true)))) && (x0.Mark == x1.Mark)))) := (congrFun e26 31).trans rfl
  obtain ⟨y34, e35, h⟩ := obind h
  refine k_mid (fun σ' hp' _ => hp10 = hp' ∧ σ' 37 = V (.bool y34) ∧ Keep [] 32 37 σ25 σ') ?_ ?_
  · rcases bt (((x0.Type_ == x1.Type_ && (x0.Seq == x1.Seq && (x0.Time == x1.Time && (x0.Source == x1.Source && true)))) && (x0.Mark == x1.Mark))) with g30 | g30
    · have h := ctrue e35 g30
      refine k_yes (f29.trans (cgB g30)) ?_
      refine k_fadrB (o := 5) f27 k13 ?_
      refine k_yes (f29.trans (cgB g30)) ?_
      refine k_loadB rfl k13 rfl ?_
      refine k_yes (f29.trans (cgB g30)) ?_
      refine k_fadrB (o := 5) f28 k11 ?_
      refine k_yes (f29.trans (cgB g30)) ?_
      refine k_loadB rfl k11 rfl ?_
      refine k_yes (f29.trans (cgB g30)) ?_
      obtain ⟨y31, e32, h⟩ := obind h
      refine k_call (.cons rfl rfl (.cons rfl rfl .nil)) (s24 (sv_retag q2) (sv_retag q4) e32) (.inl rfl) ?_
      rintro _ rfl
      refine k_pickT (f29.trans (cgB g30)) rfl ?_
      exact ⟨rfl, cgB (Option.some.inj h), (by repeat (first | exact (Keep.refl _ _ _ _) | refine Keep.upd ?_ rfl _))⟩
    · have h := cfalse e35 g30
      refine k_no (f29.trans (cgB g30)) rfl ?_
      refine k_no (f29.trans (cgB g30)) rfl ?_
      refine k_no (f29.trans (cgB g30)) rfl ?_
      refine k_no (f29.trans (cgB g30)) rfl ?_
      refine k_no (f29.trans (cgB g30)) rfl ?_
      refine k_pickF (f29.trans (cgB g30)) rfl ?_
      exact ⟨rfl, cgB (Option.some.inj h), (by repeat (first | exact (Keep.refl _ _ _ _) | refine Keep.upd ?_ rfl _))⟩
  rintro σ36 _ _ ⟨rfl, f38, k37⟩
  refine k_mov f38 ?_
  refine k_nil ?_
  refine wpE_ret ?_
  obtain rfl := Option.some.inj h
  exact e_ret (ct := 0) (.tmp rfl (back_sc rfl) .nil) rfl
end Go.Proofs.YtcbepglkfglclaaDoor
