/-
  The small code of functions comes to the Lean functions. Printed by a program of mine.
-/
import Derived.Test.YtcbepglkfglclaaDoorHM9Sb
namespace Go.Proofs.YtcbepglkfglclaaDoor
open Go Go.Abs
set_option maxRecDepth 100000
set_option maxHeartbeats 1000000
/-- hookflash/number.IsMoment -/
theorem s91 {x0 : Int} {r : Bool}  (h : F91_number_IsMoment x0 = some r) : pc L 91 [.c (I (.int .i64 x0))] true (P91 r) := by
  refine fn_pure (fn := ir91) rfl (Nat.le_of_ble_eq_true rfl) fun lent hl => ?_
  unfold F91_number_IsMoment at h
  refine e_reg ?_
  refine k_mov rfl ?_
  refine k_nil ?_
  refine e_reg ?_
  refine k_mov rfl ?_
  refine k_bin rfl rfl rfl ?_
  refine k_mov rfl ?_
  refine gL fun σ1 e2 => ?_
  have f3 : σ1 0 = V (.int .i64 x0) := (congrFun e2 0).trans rfl
  have f4 : σ1 5 = V (.bool ((decide (x0 ≥ ((0 : Int)))))) := (congrFun e2 5).trans rfl
  refine k_mid (fun σ' hp' _ => [] = hp' ∧ σ' 8 = V (.bool (((decide (x0 ≥ ((0 : Int)))) && (decide (x0 < ((345686400000 : Int))))))) ∧ Keep [] 6 8 σ1 σ') ?_ ?_
  · rcases bt ((decide (x0 ≥ ((0 : Int))))) with g5 | g5
    · refine k_yes (f4.trans (cgB g5)) ?_
      refine k_mov f3 ?_
      refine k_yes (f4.trans (cgB g5)) ?_
      refine k_bin rfl rfl rfl ?_
      refine k_pickT (f4.trans (cgB g5)) rfl ?_
      exact ⟨rfl, cgB (by rw [g5]; rfl), (by repeat (first | exact (Keep.refl _ _ _ _) | refine Keep.upd ?_ rfl _))⟩
    · refine k_no (f4.trans (cgB g5)) rfl ?_
      refine k_no (f4.trans (cgB g5)) rfl ?_
      refine k_pickF (f4.trans (cgB g5)) rfl ?_
      exact ⟨rfl, cgB (by rw [g5]; rfl), (by repeat (first | exact (Keep.refl _ _ _ _) | refine Keep.upd ?_ rfl _))⟩
  rintro σ6 _ _ ⟨rfl, f8, k7⟩
  refine k_mov f8 ?_
  obtain ⟨u9, e10, h⟩ := bnd_e h
  refine k_nil ?_
  refine wpE_ret ?_
  obtain rfl := Option.some.inj h
  exact e_ret (ct := 0) (.tmp (cgB e10) (back_sc rfl) .nil) rfl
/-- hookflash/media.within -/
theorem s74 {x0 : Int} {x1 : Int} {x2 : Int} {r : Bool}  (h : F74_media_within x0 x1 x2 = some r) : pc L 74 [.c (I (.int .i64 x0)), .c (I (.int .i64 x1)), .c (I (.int .i64 x2))] true (P74 r) := by
  refine fn_pure (fn := ir74) rfl (Nat.le_of_ble_eq_true rfl) fun lent hl => ?_
  unfold F74_media_within at h
  refine e_reg ?_
  refine k_mov rfl ?_
  refine k_nil ?_
  refine e_reg ?_
  refine k_mov rfl ?_
  refine k_mov rfl ?_
  refine k_bin rfl rfl rfl ?_
  refine k_mov rfl ?_
  refine gL fun σ1 e2 => ?_
  have f3 : σ1 0 = V (.int .i64 x0) := (congrFun e2 0).trans rfl
  have f4 : σ1 2 = V (.int .i64 x2) := (congrFun e2 2).trans rfl
  have f5 : σ1 10 = V (.bool ((decide (x0 ≥ x1)))) := (congrFun e2 10).trans rfl
  refine k_mid (fun σ' hp' _ => [] = hp' ∧ σ' 14 = V (.bool (((decide (x0 ≥ x1)) && (decide (x0 ≤ x2))))) ∧ Keep [] 11 14 σ1 σ') ?_ ?_
  · rcases bt ((decide (x0 ≥ x1))) with g6 | g6
    · refine k_yes (f5.trans (cgB g6)) ?_
      refine k_mov f3 ?_
      refine k_yes (f5.trans (cgB g6)) ?_
      refine k_mov f4 ?_
      refine k_yes (f5.trans (cgB g6)) ?_
      refine k_bin rfl rfl rfl ?_
      refine k_pickT (f5.trans (cgB g6)) rfl ?_
      exact ⟨rfl, cgB (by rw [g6]; rfl), (by repeat (first | exact (Keep.refl _ _ _ _) | refine Keep.upd ?_ rfl _))⟩
    · refine k_no (f5.trans (cgB g6)) rfl ?_
      refine k_no (f5.trans (cgB g6)) rfl ?_
      refine k_no (f5.trans (cgB g6)) rfl ?_
      refine k_pickF (f5.trans (cgB g6)) rfl ?_
      exact ⟨rfl, cgB (by rw [g6]; rfl), (by repeat (first | exact (Keep.refl _ _ _ _) | refine Keep.upd ?_ rfl _))⟩
  rintro σ7 _ _ ⟨rfl, f9, k8⟩
  refine k_mov f9 ?_
  obtain ⟨u10, e11, h⟩ := bnd_e h
  refine k_nil ?_
  refine wpE_ret ?_
  obtain rfl := Option.some.inj h
  exact e_ret (ct := 0) (.tmp (cgB e11) (back_sc rfl) .nil) rfl
/-- hookflash/media.CheckPacket -/
theorem s67 {x0 : T_api_Packet} {cx0 : List IV} {r : Int} (hx0 : R_api_Packet.rp false cx0 x0) (h : F67_media_CheckPacket x0 = some r) : pc L 67 [.agg (cx0.map I)] true (P67 r) := by
  refine fn_pure (fn := ir67) rfl (Nat.le_of_ble_eq_true rfl) fun lent hl => ?_
  unfold F67_media_CheckPacket at h
  obtain ⟨v1, rfl, q2⟩ := R_api_Packet.inv hx0
  refine e_reg ?_
  refine k_box rfl rfl fun g3 hp4 k5 r6 => ?_
  refine k_mov rfl ?_
  refine k_nil ?_
  refine wpE_seq ?_
  refine wpE_block ?_
  refine e_reg ?_
  refine k_fadrB (o := 0) rfl k5 ?_
  refine k_loadB rfl k5 rfl ?_
  obtain ⟨y7, e8, h⟩ := obind h
  refine k_call (.cons rfl rfl (.cons rfl rfl (.cons rfl rfl .nil))) (s74  e8) (.inl rfl) ?_
  rintro _ rfl
  refine k_not rfl ?_
  refine k_mov rfl ?_
  refine gL fun σ10 e11 => ?_
  have f12 : σ10 1 = .v (.c (.r (.ptr 1 g3 0))) := (congrFun e11 1).trans rfl
  have f13 : σ10 8 = V (.bool (!y7)) := (congrFun e11 8).trans rfl
  obtain ⟨y18, e19, h⟩ := obind h
  refine k_mid (fun σ' hp' _ => hp4 = hp' ∧ σ' 13 = V (.bool y18) ∧ Keep [] 9 13 σ10 σ') ?_ ?_
  · rcases bt (!y7) with g14 | g14
    · have h := ctrue e19 g14
      refine k_no (f13.trans (cgB g14)) rfl ?_
      refine k_no (f13.trans (cgB g14)) rfl ?_
      refine k_no (f13.trans (cgB g14)) rfl ?_
      refine k_no (f13.trans (cgB g14)) rfl ?_
      refine k_pickT (f13.trans (cgB g14)) rfl ?_
      exact ⟨rfl, cgB (Option.some.inj h), (by repeat (first | exact (Keep.refl _ _ _ _) | refine Keep.upd ?_ rfl _))⟩
    · have h := cfalse e19 g14
      refine k_yes (f13.trans (cgB g14)) ?_
      refine k_fadrB (o := 1) f12 k5 ?_
      refine k_yes (f13.trans (cgB g14)) ?_
      refine k_loadB rfl k5 rfl ?_
      refine k_yes (f13.trans (cgB g14)) ?_
      obtain ⟨y15, e16, h⟩ := obind h
      refine k_call (.cons rfl rfl (.cons rfl rfl (.cons rfl rfl .nil))) (s74  e16) (.inl rfl) ?_
      rintro _ rfl
      refine k_yes (f13.trans (cgB g14)) ?_
      refine k_not rfl ?_
      refine k_pickF (f13.trans (cgB g14)) rfl ?_
      exact ⟨rfl, cgB (Option.some.inj h), (by repeat (first | exact (Keep.refl _ _ _ _) | refine Keep.upd ?_ rfl _))⟩
  rintro σ20 _ _ ⟨rfl, f22, k21⟩
  have f23 : σ20 1 = .v (.c (.r (.ptr 1 g3 0))) := (k21 1 rfl).trans f12
  refine k_mov f22 ?_
  refine gL fun σ24 e25 => ?_
  have f26 : σ24 1 = .v (.c (.r (.ptr 1 g3 0))) := (congrFun e25 1).trans f23
  have f27 : σ24 14 = V (.bool y18) := (congrFun e25 14).trans rfl
  obtain ⟨y32, e33, h⟩ := obind h
  refine k_mid (fun σ' hp' _ => hp4 = hp' ∧ σ' 19 = V (.bool y32) ∧ Keep [] 15 19 σ24 σ') ?_ ?_
  · rcases bt y18 with g28 | g28
    · have h := ctrue e33 g28
      refine k_no (f27.trans (cgB g28)) rfl ?_
      refine k_no (f27.trans (cgB g28)) rfl ?_
      refine k_no (f27.trans (cgB g28)) rfl ?_
      refine k_no (f27.trans (cgB g28)) rfl ?_
      refine k_pickT (f27.trans (cgB g28)) rfl ?_
      exact ⟨rfl, cgB (Option.some.inj h), (by repeat (first | exact (Keep.refl _ _ _ _) | refine Keep.upd ?_ rfl _))⟩
    · have h := cfalse e33 g28
      refine k_yes (f27.trans (cgB g28)) ?_
      refine k_fadrB (o := 2) f26 k5 ?_
      refine k_yes (f27.trans (cgB g28)) ?_
      refine k_loadB rfl k5 rfl ?_
      refine k_yes (f27.trans (cgB g28)) ?_
      obtain ⟨y29, e30, h⟩ := obind h
      refine k_call (.cons rfl rfl (.cons rfl rfl (.cons rfl rfl .nil))) (s74  e30) (.inl rfl) ?_
      rintro _ rfl
      refine k_yes (f27.trans (cgB g28)) ?_
      refine k_not rfl ?_
      refine k_pickF (f27.trans (cgB g28)) rfl ?_
      exact ⟨rfl, cgB (Option.some.inj h), (by repeat (first | exact (Keep.refl _ _ _ _) | refine Keep.upd ?_ rfl _))⟩
  rintro σ34 _ _ ⟨rfl, f36, k35⟩
  have f37 : σ34 1 = .v (.c (.r (.ptr 1 g3 0))) := (k35 1 rfl).trans f26
  refine k_mov f36 ?_
  refine gL fun σ38 e39 => ?_
  have f40 : σ38 1 = .v (.c (.r (.ptr 1 g3 0))) := (congrFun e39 1).trans f37
  have f41 : σ38 20 = V (.bool y32) := (congrFun e39 20).trans rfl
  obtain ⟨y46, e47, h⟩ := obind h
  refine k_mid (fun σ' hp' _ => hp4 = hp' ∧ σ' 25 = V (.bool y46) ∧ Keep [] 21 25 σ38 σ') ?_ ?_
  · rcases bt y32 with g42 | g42
    · have h := ctrue e47 g42
      refine k_no (f41.trans (cgB g42)) rfl ?_
      refine k_no (f41.trans (cgB g42)) rfl ?_
      refine k_no (f41.trans (cgB g42)) rfl ?_
      refine k_no (f41.trans (cgB g42)) rfl ?_
      refine k_pickT (f41.trans (cgB g42)) rfl ?_
      exact ⟨rfl, cgB (Option.some.inj h), (by repeat (first | exact (Keep.refl _ _ _ _) | refine Keep.upd ?_ rfl _))⟩
    · have h := cfalse e47 g42
      refine k_yes (f41.trans (cgB g42)) ?_
      refine k_fadrB (o := 3) f40 k5 ?_
      refine k_yes (f41.trans (cgB g42)) ?_
      refine k_loadB rfl k5 rfl ?_
      refine k_yes (f41.trans (cgB g42)) ?_
      obtain ⟨y43, e44, h⟩ := obind h
      refine k_call (.cons rfl rfl (.cons rfl rfl (.cons rfl rfl .nil))) (s74  e44) (.inl rfl) ?_
      rintro _ rfl
      refine k_yes (f41.trans (cgB g42)) ?_
      refine k_not rfl ?_
      refine k_pickF (f41.trans (cgB g42)) rfl ?_
      exact ⟨rfl, cgB (Option.some.inj h), (by repeat (first | exact (Keep.refl _ _ _ _) | refine Keep.upd ?_ rfl _))⟩
  rintro σ48 _ _ ⟨rfl, f50, k49⟩
  have f51 : σ48 1 = .v (.c (.r (.ptr 1 g3 0))) := (k49 1 rfl).trans f40
  refine k_mov f50 ?_
  refine k_nil ?_
  refine wpE_cond (p := y46) rfl (fun g52 => ?_) (fun g52 => ?_)
  · have h := ctrue h g52
    refine e_reg ?_
    refine k_mov rfl ?_
    refine k_nil ?_
    refine wpE_ret ?_
    obtain rfl := Option.some.inj h
    exact e_ret (ct := 0) (.tmp rfl (back_sc rfl) .nil) rfl
  · have h := cfalse h g52
    refine e_reg ?_
    refine k_fadrB (o := 5) f51 k5 ?_
    refine k_loadB rfl k5 rfl ?_
    refine k_len rfl (sv.any [] _ q2) ?_
    refine k_bin rfl rfl rfl ?_
    refine k_mov rfl ?_
    obtain ⟨u53, e54, h⟩ := bnd_e h
    refine k_nil ?_
    refine wpE_cond (p := u53) (cgB e54) (fun g55 => ?_) (fun g55 => ?_)
    · have h := ctrue h g55
      refine e_reg ?_
      refine k_mov rfl ?_
      refine k_nil ?_
      refine wpE_ret ?_
      obtain rfl := Option.some.inj h
      exact e_ret (ct := 0) (.tmp rfl (back_sc rfl) .nil) rfl
    · have h := cfalse h g55
      refine wpE_skip ?_
      show wpE _ _ _ _ _ _ _ _
      refine e_reg ?_
      refine k_mov rfl ?_
      refine k_nil ?_
      refine wpE_ret ?_
      obtain rfl := Option.some.inj h
      exact e_ret (ct := 0) (.tmp rfl (back_sc rfl) .nil) rfl
/-- hookflash/media.CheckArrivals -/
theorem s79 {x0 : List T_api_Arrival} {vx0 : IV} {r : Int} (hx0 : sv R_api_Arrival false vx0 x0) (h : F79_media_CheckArrivals x0 = some r) : pc L 79 [.c (I vx0)] true (P79 r) := by
  refine fn_pure (fn := ir79) rfl (Nat.le_of_ble_eq_true rfl) fun lent hl => ?_
  unfold F79_media_CheckArrivals at h
  refine e_reg ?_
  refine k_mov rfl ?_
  refine k_nil ?_
  refine wpE_seq ?_
  refine e_reg ?_
  refine k_mov rfl ?_
  refine k_len rfl (sv.any [] _ hx0) ?_
  refine k_bin rfl rfl rfl ?_
  refine k_nil ?_
  refine wpE_cond (p := (decide (((List.length x0 : Int)) > ((2000 : Int))))) rfl (fun g1 => ?_) (fun g1 => ?_)
  · have h := ctrue h g1
    refine e_reg ?_
    refine k_mov rfl ?_
    refine k_nil ?_
    refine wpE_ret ?_
    obtain rfl := Option.some.inj h
    exact e_ret (ct := 0) (.tmp rfl (back_sc rfl) .nil) rfl
  · have h := cfalse h g1
    refine wpE_skip ?_
    show wpE _ _ _ _ _ _ _ _
    refine wpE_seq ?_
    refine e_reg ?_
    refine k_mov rfl ?_
    refine k_len rfl (sv.any [] _ hx0) ?_
    refine k_mov rfl ?_
    refine k_nil ?_
    refine wpE_block ?_
    refine gE fun σ2 e3 => ?_
    have f4 : σ2 0 = .v (.c ((I vx0))) := (congrFun e3 0).trans rfl
    have f5 : σ2 9 = .v (.c ((I vx0))) := (congrFun e3 9).trans rfl
    have f6 : σ2 10 = V (.int .i64 ((List.length x0 : Int))) := (congrFun e3 10).trans rfl
    have f7 : σ2 11 = V (.int .i64 ((0 : Int))) := (congrFun e3 11).trans rfl
    obtain ⟨e8, h9, h⟩ := lret_e h
    refine wpE_mono (e_loop h9 (I := fun s σ' hp' _ => σ' 11 = V (.int .i64 s) ∧ Keep [2, 3, 4, 5] 11 48 σ2 σ' ∧ Fr [4] [] hp') (X := fun e ex σ' hp' _ => match e with | .inl e => ex = .exit 0 ∧ Keep [2, 3, 4, 5] 11 48 σ2 σ' ∧ Fr [4] [] hp' | .inr r => ex = .ret ∧ ∀ ct, atEnd 49 [Res.tmp 2] (fin lent (P79 r)) .ret σ' hp' ct) ⟨f7, Keep.refl _ _ _ _, Fr.refl _ _⟩ ?_) ?_
    · clear h
      rintro w10 o σ12 hp13 _ h ⟨f11, k14, r15⟩
      have h : F79_media_CheckArrivals_l0 x0 w10 = some o := h; unfold F79_media_CheckArrivals_l0 at h
      have f16 : σ12 0 = .v (.c ((I vx0))) := (k14 0 rfl).trans f4
      have f17 : σ12 9 = .v (.c ((I vx0))) := (k14 9 rfl).trans f5
      have f18 : σ12 10 = V (.int .i64 ((List.length x0 : Int))) := (k14 10 rfl).trans f6
      show wpE _ _ _ _ _ _ _ _
      refine e_reg ?_
      refine k_bin f11 f18 rfl ?_
      refine k_nil ?_
      refine wpE_seq ?_
      refine wpE_cond (p := (decide (w10 < ((List.length x0 : Int))))) rfl (fun g19 => ?_) (fun g19 => ?_)
      · have h := ctrue h g19
        refine wpE_skip ?_
        show wpE _ _ _ _ _ _ _ _
        refine wpE_seq ?_
        refine wpE_block ?_
        refine e_reg ?_
        refine k_mov f11 ?_
        obtain ⟨y20, e21, h⟩ := obind h
        refine k_iadrL f17 (sv.any [] _ hx0) f11 e21 rfl fun p22 c23 q24 h25 => ?_
        obtain ⟨v26, rfl, q27⟩ := R_api_Arrival.inv h25
        refine k_loadL rfl q24 rfl ?_
        refine k_alloc fun g28 hp29 k30 r31 => ?_
        have r32 : Fr [4] [] hp29 := Fr.ext r15 r31 rfl
        refine k_mov rfl ?_
        refine k_storeB rfl rfl k30 rfl fun hp33 k34 r35 => ?_
        have r36 : Fr [4] [] hp33 := Fr.ext r32 r35 rfl
        refine k_nil ?_
        refine wpE_seq ?_
        refine e_reg ?_
        refine k_fadrB (o := 0) rfl k34 ?_
        refine k_loadB rfl k34 rfl ?_
        obtain ⟨y37, e38, h⟩ := obind h
        refine k_call (.cons rfl rfl .nil) (s91  e38) (.inl rfl) ?_
        rintro _ rfl
        refine k_not rfl ?_
        refine k_nil ?_
        refine wpE_cond (p := (!y37)) rfl (fun g40 => ?_) (fun g40 => ?_)
        · have h := ctrue h g40
          refine e_reg ?_
          refine k_mov rfl ?_
          refine k_nil ?_
          refine wpE_ret ?_
          obtain rfl := Option.some.inj h
          exact ⟨by decide, rfl, fun _ => e_ret (ct := 0) (.tmp rfl (back_sc rfl) .nil) rfl⟩
        · have h := cfalse h g40
          refine wpE_skip ?_
          show wpE _ _ _ _ _ _ _ _
          refine wpE_seq ?_
          refine e_reg ?_
          refine k_fadrB (o := 1) rfl k34 ?_
          refine k_loadB rfl k34 rfl ?_
          obtain ⟨y41, e42, h⟩ := obind h
          refine k_call (.cons rfl rfl .nil) (s67 (cx0 := [IV.int .i64 y20.Packet.Type_, IV.int .i64 y20.Packet.Seq, IV.int .i64 y20.Packet.Time, IV.int .i64 y20.Packet.Source, IV.bool y20.Packet.Mark, (IV.retag 1 v26)]) (R_api_Packet.mk (sv_retag q27)) e42) (.inl rfl) ?_
          rintro _ rfl
          refine k_mov rfl ?_
          refine k_nil ?_
          refine e_reg ?_
          refine k_mov rfl ?_
          refine k_bin rfl rfl rfl ?_
          refine k_nil ?_
          refine wpE_cond (p := (y41 != ((0 : Int)))) rfl (fun g44 => ?_) (fun g44 => ?_)
          · have h := ctrue h g44
            refine e_reg ?_
            refine k_mov rfl ?_
            refine k_mov rfl ?_
            refine k_nil ?_
            refine wpE_ret ?_
            obtain rfl := Option.some.inj h
            exact ⟨by decide, rfl, fun _ => e_ret (ct := 0) (.tmp rfl (back_sc rfl) .nil) rfl⟩
          · have h := cfalse h g44
            refine wpE_skip ?_
            show wpE _ _ _ _ _ _ _ _
            refine wpE_seq ?_
            refine e_regD (by kernel_rfl) (by kernel_rfl) ?_
            refine k_mov rfl ?_
            refine k_bin rfl rfl rfl ?_
            refine k_mov rfl ?_
            refine gL fun σ45 e46 => ?_
            have k47 : Keep [2, 3, 4, 5] 11 48 σ2 σ45 := by rw [e46]; repeat (first | exact k14 | refine Keep.upd ?_ rfl _)
            have f48 : σ45 0 = .v (.c ((I vx0))) := (congrFun e46 0).trans f16
            have f49 : σ45 9 = .v (.c ((I vx0))) := (congrFun e46 9).trans f17
            have f50 : σ45 10 = V (.int .i64 ((List.length x0 : Int))) := (congrFun e46 10).trans f18
            have f51 : σ45 11 = V (.int .i64 w10) := (congrFun e46 11).trans f11
            have f52 : σ45 4 = .v (.c (.r (.ptr 4 g28 0))) := (congrFun e46 4).trans rfl
            have f53 : σ45 3 = V (.int .i64 w10) := (congrFun e46 3).trans rfl
            have f54 : σ45 28 = V (.bool ((decide (w10 > ((0 : Int)))))) := (congrFun e46 28).trans rfl
            obtain ⟨y66, e67, h⟩ := obind h
            refine k_mid (fun σ' hp' _ => hp33 = hp' ∧ σ' 38 = V (.bool y66) ∧ Keep [] 29 38 σ45 σ') ?_ ?_
            · rcases bt ((decide (w10 > ((0 : Int))))) with g55 | g55
              · have h := ctrue e67 g55
                refine k_yes (f54.trans (cgB g55)) ?_
                refine k_fadrB (o := 0) f52 k34 ?_
                refine k_yes (f54.trans (cgB g55)) ?_
                refine k_loadB rfl k34 rfl ?_
                refine k_yes (f54.trans (cgB g55)) ?_
                refine k_mov f48 ?_
                refine k_yes (f54.trans (cgB g55)) ?_
                refine k_mov f53 ?_
                refine k_yes (f54.trans (cgB g55)) ?_
                refine k_bin rfl rfl rfl ?_
                refine k_yes (f54.trans (cgB g55)) ?_
                obtain ⟨y56, e57, h⟩ := obind h
                refine k_iadrL rfl (sv.any [] _ hx0) rfl e57 rfl fun p58 c59 q60 h61 => ?_
                obtain ⟨v62, rfl, q63⟩ := R_api_Arrival.inv h61
                refine k_yes (f54.trans (cgB g55)) ?_
                refine k_fadrL (o := 0) rfl q60 (Nat.le_of_ble_eq_true rfl) fun p64 q65 => ?_
                refine k_yes (f54.trans (cgB g55)) ?_
                refine k_loadL rfl q65 rfl ?_
                refine k_yes (f54.trans (cgB g55)) ?_
                refine k_bin rfl rfl rfl ?_
                refine k_pickT (f54.trans (cgB g55)) rfl ?_
                exact ⟨rfl, cgB (Option.some.inj h), (by repeat (first | exact (Keep.refl _ _ _ _) | refine Keep.upd ?_ rfl _))⟩
              · have h := cfalse e67 g55
                refine k_no (f54.trans (cgB g55)) rfl ?_
                refine k_no (f54.trans (cgB g55)) rfl ?_
                refine k_no (f54.trans (cgB g55)) rfl ?_
                refine k_no (f54.trans (cgB g55)) rfl ?_
                refine k_no (f54.trans (cgB g55)) rfl ?_
                refine k_no (f54.trans (cgB g55)) rfl ?_
                refine k_no (f54.trans (cgB g55)) rfl ?_
                refine k_no (f54.trans (cgB g55)) rfl ?_
                refine k_no (f54.trans (cgB g55)) rfl ?_
                refine k_pickF (f54.trans (cgB g55)) rfl ?_
                exact ⟨rfl, cgB (Option.some.inj h), (by repeat (first | exact (Keep.refl _ _ _ _) | refine Keep.upd ?_ rfl _))⟩
            rintro σ68 _ _ ⟨rfl, f70, k69⟩
            have f71 : σ68 0 = .v (.c ((I vx0))) := (k69 0 rfl).trans f48
            have f72 : σ68 9 = .v (.c ((I vx0))) := (k69 9 rfl).trans f49
            have f73 : σ68 10 = V (.int .i64 ((List.length x0 : Int))) := (k69 10 rfl).trans f50
            have f74 : σ68 11 = V (.int .i64 w10) := (k69 11 rfl).trans f51
            have f75 : σ68 4 = .v (.c (.r (.ptr 4 g28 0))) := (k69 4 rfl).trans f52
            have k76 : Keep [2, 3, 4, 5] 11 48 σ2 σ68 := Keep.trans k47 (Keep.sub k69 rfl)
            refine k_nil ?_
            refine wpE_cond (p := y66) f70 (fun g77 => ?_) (fun g77 => ?_)
            · have h := ctrue h g77
              refine e_reg ?_
              refine k_mov rfl ?_
              refine k_nil ?_
              refine wpE_ret ?_
              obtain rfl := Option.some.inj h
              exact ⟨by decide, rfl, fun _ => e_ret (ct := 0) (.tmp rfl (back_sc rfl) .nil) rfl⟩
            · have h := cfalse h g77
              refine wpE_skip ?_
              show wpE _ _ _ _ _ _ _ _
              refine e_regD (by kernel_rfl) (by kernel_rfl) ?_
              refine k_fadrB (o := 1) f75 k34 ?_
              refine k_fadrB (o := 3) rfl k34 ?_
              refine k_loadB rfl k34 rfl ?_
              refine k_mov f71 ?_
              obtain ⟨y78, e79, h⟩ := obind h
              refine k_iadrL rfl (sv.any [] _ hx0) rfl e79 rfl fun p80 c81 q82 h83 => ?_
              obtain ⟨v84, rfl, q85⟩ := R_api_Arrival.inv h83
              refine k_fadrL (o := 1) rfl q82 (Nat.le_of_ble_eq_true rfl) fun p86 q87 => ?_
              refine k_fadrL (o := 3) rfl q87 (Nat.le_of_ble_eq_true rfl) fun p88 q89 => ?_
              refine k_loadL rfl q89 rfl ?_
              refine k_bin rfl rfl rfl ?_
              refine k_nil ?_
              refine wpE_cond (p := (y20.Packet.Source != y78.Packet.Source)) rfl (fun g90 => ?_) (fun g90 => ?_)
              · have h := ctrue h g90
                refine e_reg ?_
                refine k_mov rfl ?_
                refine k_nil ?_
                refine wpE_ret ?_
                obtain rfl := Option.some.inj h
                exact ⟨by decide, rfl, fun _ => e_ret (ct := 0) (.tmp rfl (back_sc rfl) .nil) rfl⟩
              · have h := cfalse h g90
                refine wpE_skip ?_
                show wpE _ _ _ _ _ _ _ _
                refine e_last ?_
                refine k_bin f74 rfl rfl ?_
                refine k_mov rfl ?_
                refine k_nil ?_
                obtain rfl := Option.some.inj h
                exact ⟨rfl, rfl, (by repeat (first | exact k76 | refine Keep.upd ?_ rfl _)), r36⟩
      · have h := cfalse h g19
        refine wpE_exit ?_
        obtain rfl := Option.some.inj h
        exact ⟨by decide, rfl, (by repeat (first | exact k14 | refine Keep.upd ?_ rfl _)), r15⟩
    rcases e8 with _ | r1
    rotate_left
    · rintro _ _ _ _ ⟨rfl, hX⟩
      obtain rfl := Option.some.inj h
      exact hX 0
    rintro _ σ91 hp92 _ ⟨rfl, k93, r94⟩
    show wpE _ _ _ _ _ _ _ _
    refine e_reg ?_
    refine k_mov rfl ?_
    refine k_nil ?_
    refine wpE_ret ?_
    obtain rfl := Option.some.inj h
    exact e_ret (ct := 0) (.tmp rfl (back_sc rfl) .nil) rfl
/-- hookflash/media.near -/
theorem s125 {x0 : Int} {x1 : Int} {x2 : Int} {r : Int}  (h : F125_media_near x0 x1 x2 = some r) : pc L 125 [.c (I (.int .i64 x0)), .c (I (.int .i64 x1)), .c (I (.int .i64 x2))] true (P125 r) := by
  refine fn_pure (fn := ir125) rfl (Nat.le_of_ble_eq_true rfl) fun lent hl => ?_
  unfold F125_media_near at h
  refine e_reg ?_
  refine k_mov rfl ?_
  refine k_nil ?_
  refine e_reg ?_
  refine k_mov rfl ?_
  refine k_mov rfl ?_
  refine k_bin rfl rfl rfl ?_
  refine k_mov rfl ?_
  refine k_bin rfl rfl rfl ?_
  refine k_bin rfl rfl rfl ?_
  refine k_mov rfl ?_
  obtain ⟨u1, e2, h⟩ := bnd_e h
  refine k_nil ?_
  refine wpE_seq ?_
  refine e_reg ?_
  refine k_mov (cgI e2) ?_
  refine k_mov rfl ?_
  refine k_quo rfl rfl (q := _) rfl ?_
  refine k_bin rfl rfl rfl ?_
  refine k_nil ?_
  refine gE fun σ3 e4 => ?_
  have f5 : σ3 0 = V (.int .i64 x0) := (congrFun e4 0).trans rfl
  have f6 : σ3 2 = V (.int .i64 x2) := (congrFun e4 2).trans rfl
  have f7 : σ3 7 = V (.int .i64 u1) := (congrFun e4 7).trans (cgI e2)
  have f8 : σ3 17 = V (.bool ((decide (u1 > ((IntKind.wrap .i64 (Int.tdiv x2 ((2 : Int))))))))) := (congrFun e4 17).trans rfl
  obtain ⟨y11, h10, h⟩ := obind h
  refine wpE_mono (Q := fun ex σ' hp' _ => ex = .normal ∧ σ' 7 = V (.int .i64 y11) ∧ Keep [] 7 20 σ3 σ' ∧ [] = hp') ?_ ?_
  · clear h; have h := h10
    refine wpE_cond (p := (decide (u1 > ((IntKind.wrap .i64 (Int.tdiv x2 ((2 : Int)))))))) f8 (fun g12 => ?_) (fun g12 => ?_)
    · have h := ctrue h g12
      refine e_last ?_
      refine k_mov f7 ?_
      refine k_mov f6 ?_
      refine k_bin rfl rfl rfl ?_
      refine k_mov rfl ?_
      obtain ⟨u13, e14, h⟩ := bnd_e h
      refine k_nil ?_
      have q0 := Option.some.inj h
      obtain rfl := q0
      exact ⟨rfl, (cgI e14), (by repeat (first | exact (Keep.refl _ _ _ _) | refine Keep.upd ?_ rfl _)), rfl⟩
    · have h := cfalse h g12
      refine wpE_skip ?_
      have q0 := Option.some.inj h
      obtain rfl := q0
      exact ⟨rfl, f7, (by repeat (first | exact (Keep.refl _ _ _ _) | refine Keep.upd ?_ rfl _)), rfl⟩
  rintro _ σ16 _ _ ⟨rfl, f15, k18, rfl⟩
  have f20 : σ16 0 = V (.int .i64 x0) := (k18 0 rfl).trans f5
  show wpE _ _ _ _ _ _ _ _
  refine e_reg ?_
  refine k_mov f20 ?_
  refine k_mov f15 ?_
  refine k_bin rfl rfl rfl ?_
  refine k_mov rfl ?_
  obtain ⟨u21, e22, h⟩ := bnd_e h
  refine k_nil ?_
  refine wpE_ret ?_
  obtain rfl := Option.some.inj h
  exact e_ret (ct := 0) (.tmp (cgI e22) (back_sc rfl) .nil) rfl
/-- hookflash/media.numbers -/
theorem s81 {x0 : List T_api_Arrival} {vx0 : IV} {r : List Int} (hx0 : sv R_api_Arrival false vx0 x0) (h : F81_media_numbers x0 = some r) : pc L 81 [.c (I vx0)] true (P81 r) := by
  refine fn_pure (fn := ir81) rfl (Nat.le_of_ble_eq_true rfl) fun lent hl => ?_
  unfold F81_media_numbers at h
  refine e_reg ?_
  refine k_mov rfl ?_
  refine k_nil ?_
  refine e_reg ?_
  refine k_mov rfl ?_
  refine k_nil ?_
  refine e_reg ?_
  refine k_mov rfl ?_
  refine k_nil ?_
  refine wpE_seq ?_
  refine e_reg ?_
  refine k_mov rfl ?_
  refine k_len rfl (sv.any [] _ hx0) ?_
  refine k_mov rfl ?_
  refine k_nil ?_
  refine wpE_block ?_
  refine gE fun σ1 e2 => ?_
  have f3 : σ1 3 = .v (.c ((I .nilS))) := (congrFun e2 3).trans rfl
  have f4 : σ1 4 = V (.int .i64 ((0 : Int))) := (congrFun e2 4).trans rfl
  have f5 : σ1 8 = .v (.c ((I vx0))) := (congrFun e2 8).trans rfl
  have f6 : σ1 9 = V (.int .i64 ((List.length x0 : Int))) := (congrFun e2 9).trans rfl
  have f7 : σ1 10 = V (.int .i64 ((0 : Int))) := (congrFun e2 10).trans rfl
  obtain ⟨y86, h9, h⟩ := obind h
  refine wpE_mono (e_loop h9 (I := fun s σ' hp' _ => (∃ a, σ' 3 = .v (.c a) ∧ so [32] (Rep.int .i64) true hp' a s.1) ∧ σ' 4 = V (.int .i64 s.2.1) ∧ σ' 10 = V (.int .i64 s.2.2) ∧ Keep [3, 4, 5, 6, 7] 10 33 σ1 σ' ∧ Fr [6, 32] [] hp') (X := fun e ex σ' hp' _ => ex = .exit 0 ∧ (∃ a, σ' 3 = .v (.c a) ∧ so [32] (Rep.int .i64) true hp' a e) ∧ Keep [3, 4, 5, 6, 7] 10 33 σ1 σ' ∧ Fr [6, 32] [] hp') ⟨⟨_, f3, (so_nil _ _ _ _)⟩, f4, f7, Keep.refl _ _ _ _, Fr.refl _ _⟩ ?_) ?_
  · clear h
    rintro ⟨w10, w11, w12⟩ o σ18 hp19 _ h ⟨⟨a13, f14, o15⟩, f16, f17, k20, r21⟩
    have h : F81_media_numbers_l0 x0 w10 w11 w12 = some o := h; unfold F81_media_numbers_l0 at h
    have f22 : σ18 8 = .v (.c ((I vx0))) := (k20 8 rfl).trans f5
    have f23 : σ18 9 = V (.int .i64 ((List.length x0 : Int))) := (k20 9 rfl).trans f6
    show wpE _ _ _ _ _ _ _ _
    refine e_reg ?_
    refine k_bin f17 f23 rfl ?_
    refine k_nil ?_
    refine wpE_seq ?_
    refine wpE_cond (p := (decide (w12 < ((List.length x0 : Int))))) rfl (fun g24 => ?_) (fun g24 => ?_)
    · have h := ctrue h g24
      refine wpE_skip ?_
      show wpE _ _ _ _ _ _ _ _
      refine wpE_seq ?_
      refine wpE_block ?_
      refine e_reg ?_
      refine k_mov f17 ?_
      obtain ⟨y25, e26, h⟩ := obind h
      refine k_iadrL f22 (sv.any [] _ hx0) f17 e26 rfl fun p27 c28 q29 h30 => ?_
      obtain ⟨v31, rfl, q32⟩ := R_api_Arrival.inv h30
      refine k_loadL rfl q29 rfl ?_
      refine k_alloc fun g33 hp34 k35 r36 => ?_
      have r37 : Fr [6, 32] [] hp34 := Fr.ext r21 r36 rfl
      have o38 := o15.fr r36 rfl
      refine k_mov rfl ?_
      refine k_storeB rfl rfl k35 rfl fun hp39 k40 r41 => ?_
      have r42 : Fr [6, 32] [] hp39 := Fr.ext r37 r41 rfl
      have o43 := o38.fr r41 rfl
      refine k_nil ?_
      refine e_reg ?_
      refine k_fadrB (o := 1) rfl k40 ?_
      refine k_fadrB (o := 1) rfl k40 ?_
      refine k_loadB rfl k40 rfl ?_
      refine k_bin rfl rfl rfl ?_
      refine k_mov rfl ?_
      obtain ⟨u44, e45, h⟩ := bnd_e h
      refine k_nil ?_
      refine wpE_seq ?_
      refine e_reg ?_
      refine k_mov rfl ?_
      refine k_bin rfl rfl rfl ?_
      refine k_nil ?_
      refine gE fun σ46 e47 => ?_
      have k48 : Keep [3, 4, 5, 6, 7] 10 33 σ1 σ46 := by rw [e47]; repeat (first | exact k20 | refine Keep.upd ?_ rfl _)
      have f49 : σ46 3 = .v (.c a13) := (congrFun e47 3).trans f14
      have f50 : σ46 4 = V (.int .i64 w11) := (congrFun e47 4).trans f16
      have f51 : σ46 8 = .v (.c ((I vx0))) := (congrFun e47 8).trans f22
      have f52 : σ46 9 = V (.int .i64 ((List.length x0 : Int))) := (congrFun e47 9).trans f23
      have f53 : σ46 10 = V (.int .i64 w12) := (congrFun e47 10).trans f17
      have f54 : σ46 6 = .v (.c (.r (.ptr 6 g33 0))) := (congrFun e47 6).trans rfl
      have f55 : σ46 7 = V (.int .i64 u44) := (congrFun e47 7).trans (cgI e45)
      have f56 : σ46 20 = V (.bool ((decide (w12 > ((0 : Int)))))) := (congrFun e47 20).trans rfl
      obtain ⟨y59, h58, h⟩ := obind h
      refine wpE_mono (Q := fun ex σ' hp' _ => ex = .normal ∧ σ' 7 = V (.int .i64 y59) ∧ Keep [7] 21 25 σ46 σ' ∧ hp39 = hp') ?_ ?_
      · clear h; have h := h58
        refine wpE_cond (p := (decide (w12 > ((0 : Int))))) f56 (fun g60 => ?_) (fun g60 => ?_)
        · have h := ctrue h g60
          refine e_last ?_
          refine k_mov f50 ?_
          refine k_fadrB (o := 1) f54 k40 ?_
          refine k_fadrB (o := 1) rfl k40 ?_
          refine k_loadB rfl k40 rfl ?_
          obtain ⟨y61, e62, h⟩ := obind h
          refine k_call (.cons rfl rfl (.cons rfl rfl (.cons rfl rfl .nil))) (s125  e62) (.inl rfl) ?_
          rintro _ rfl
          refine k_mov rfl ?_
          refine k_nil ?_
          have q0 := Option.some.inj h
          obtain rfl := q0
          exact ⟨rfl, rfl, (by repeat (first | exact (Keep.refl _ _ _ _) | refine Keep.upd ?_ rfl _)), rfl⟩
        · have h := cfalse h g60
          refine wpE_skip ?_
          have q0 := Option.some.inj h
          obtain rfl := q0
          exact ⟨rfl, f55, (by repeat (first | exact (Keep.refl _ _ _ _) | refine Keep.upd ?_ rfl _)), rfl⟩
      rintro _ σ65 _ _ ⟨rfl, f64, k67, rfl⟩
      have f69 : σ65 3 = .v (.c a13) := (k67 3 rfl).trans f49
      have f70 : σ65 4 = V (.int .i64 w11) := (k67 4 rfl).trans f50
      have f71 : σ65 8 = .v (.c ((I vx0))) := (k67 8 rfl).trans f51
      have f72 : σ65 9 = V (.int .i64 ((List.length x0 : Int))) := (k67 9 rfl).trans f52
      have f73 : σ65 10 = V (.int .i64 w12) := (k67 10 rfl).trans f53
      have k74 : Keep [3, 4, 5, 6, 7] 10 33 σ1 σ65 := Keep.trans k48 (Keep.sub k67 rfl)
      show wpE _ _ _ _ _ _ _ _
      refine e_reg ?_
      refine k_mov f70 ?_
      refine k_mov f64 ?_
      refine k_mx2 rfl rfl ?_
      refine k_mov rfl ?_
      obtain ⟨u75, e76, h⟩ := bnd_e h
      refine k_nil ?_
      refine e_last ?_
      refine k_mov f69 ?_
      refine k_mov f64 ?_
      refine k_bslI (vs := [IV.int .i64 y59]) (.cons rfl .nil) (by decide) rfl ?_
      have o77 : sv (Rep.int .i64) true (.lit 0 [IV.int .i64 y59] 1) ([y59] : List Int) := sv_lit true (⟨[IV.int .i64 y59], _, rfl, rfl, rfl⟩) rfl
      obtain ⟨y83, e84, h⟩ := obind h
      refine k_app (E := (Rep.int .i64)) (f := true) rfl o43 rfl (sv.any [] _ o77) e84 rfl fun a78 hp79 ct80 o81 r82 => ?_
      have r85 : Fr [6, 32] [] hp79 := Fr.ext r42 r82 rfl
      refine k_mov rfl ?_
      refine k_nil ?_
      show wpE _ _ _ _ _ _ _ _
      refine e_last ?_
      refine k_bin f73 rfl rfl ?_
      refine k_mov rfl ?_
      refine k_nil ?_
      obtain rfl := Option.some.inj h
      exact ⟨rfl, ⟨_, rfl, ((o81).wide rfl)⟩, (cgI e76), rfl, (by repeat (first | exact k74 | refine Keep.upd ?_ rfl _)), r85⟩
    · have h := cfalse h g24
      refine wpE_exit ?_
      obtain rfl := Option.some.inj h
      exact ⟨by decide, rfl, ⟨_, f14, ((o15).wide rfl)⟩, (by repeat (first | exact k20 | refine Keep.upd ?_ rfl _)), r21⟩
  rintro _ σ87 hp88 _ ⟨rfl, ⟨a91, f92, o93⟩, k89, r90⟩
  show wpE _ _ _ _ _ _ _ _
  refine e_reg ?_
  refine k_mov f92 ?_
  refine k_mov rfl ?_
  refine k_nil ?_
  refine wpE_ret ?_
  obtain ⟨v94, q95, q96⟩ := (o93.any).back lent hl [] rfl
  obtain rfl := Option.some.inj h
  exact e_ret (ct := 0) (.tmp rfl (back_c q95) .nil) ⟨v94, rfl, q96⟩
/-- hookflash/media.Numbers -/
theorem s39 {x0 : List T_api_Arrival} {vx0 : IV} {r : List Int × Int} (hx0 : sv R_api_Arrival false vx0 x0) (h : F39_media_Numbers x0 = some r) : pc L 39 [.c (I vx0)] true (P39 r) := by
  refine fn_pure (fn := ir39) rfl (Nat.le_of_ble_eq_true rfl) fun lent hl => ?_
  unfold F39_media_Numbers at h
  refine e_reg ?_
  refine k_mov rfl ?_
  refine k_mov rfl ?_
  refine k_nil ?_
  refine wpE_seq ?_
  refine e_reg ?_
  refine k_mov rfl ?_
  obtain ⟨y1, e2, h⟩ := obind h
  refine k_call (.cons rfl rfl .nil) (s79 (sv_retag hx0) e2) (.inl rfl) ?_
  rintro _ rfl
  refine k_mov rfl ?_
  refine k_nil ?_
  refine e_reg ?_
  refine k_mov rfl ?_
  refine k_bin rfl rfl rfl ?_
  refine k_nil ?_
  refine wpE_cond (p := (y1 != ((0 : Int)))) rfl (fun g4 => ?_) (fun g4 => ?_)
  · have h := ctrue h g4
    refine e_reg ?_
    refine k_mov rfl ?_
    refine k_mov rfl ?_
    refine k_mov rfl ?_
    refine k_nil ?_
    refine wpE_ret ?_
    obtain rfl := Option.some.inj h
    exact e_ret (ct := 0) (.tmp rfl (back_c (backC_inl fun _ => sv_fresh (sv_nil (Rep.int .i64) true))) (.tmp rfl (back_sc rfl) .nil)) ⟨IV.nilS, rfl, (sv_nil (Rep.int .i64) true)⟩
  · have h := cfalse h g4
    refine wpE_skip ?_
    show wpE _ _ _ _ _ _ _ _
    refine e_reg ?_
    refine k_mov rfl ?_
    obtain ⟨y5, e6, h⟩ := obind h
    refine k_call (.cons rfl rfl .nil) (s81 (sv_retag hx0) e6) (.inl rfl) ?_
    rintro _ ⟨v8, rfl, q9⟩
    refine k_mov rfl ?_
    refine k_mov rfl ?_
    refine k_nil ?_
    refine wpE_ret ?_
    obtain rfl := Option.some.inj h
    exact e_ret (ct := 0) (.tmp rfl (back_c (backC_inl fun _ => sv_fresh q9)) (.tmp rfl (back_sc rfl) .nil)) ⟨v8, rfl, q9⟩
/-- hookflash/media.apart -/
theorem s80 {x0 : Int} {x1 : Int} {r : Int}  (h : F80_media_apart x0 x1 = some r) : pc L 80 [.c (I (.int .i64 x0)), .c (I (.int .i64 x1))] true (P80 r) := by
  refine fn_pure (fn := ir80) rfl (Nat.le_of_ble_eq_true rfl) fun lent hl => ?_
  unfold F80_media_apart at h
  refine e_reg ?_
  refine k_mov rfl ?_
  refine k_nil ?_
  refine e_reg ?_
  refine k_mov rfl ?_
  refine k_mov rfl ?_
  refine k_bin rfl rfl rfl ?_
  refine k_bin rfl rfl rfl ?_
  refine k_mov rfl ?_
  obtain ⟨u1, e2, h⟩ := bnd_e h
  refine k_nil ?_
  refine wpE_seq ?_
  refine e_reg ?_
  refine k_mov (cgI e2) ?_
  refine k_bin rfl rfl rfl ?_
  refine k_nil ?_
  refine gE fun σ3 e4 => ?_
  have f5 : σ3 5 = V (.int .i64 u1) := (congrFun e4 5).trans (cgI e2)
  have f6 : σ3 11 = V (.bool ((decide (u1 ≥ ((2147483648 : Int)))))) := (congrFun e4 11).trans rfl
  obtain ⟨y9, h8, h⟩ := obind h
  refine wpE_mono (Q := fun ex σ' hp' _ => ex = .normal ∧ σ' 5 = V (.int .i64 y9) ∧ Keep [] 5 13 σ3 σ' ∧ [] = hp') ?_ ?_
  · clear h; have h := h8
    refine wpE_cond (p := (decide (u1 ≥ ((2147483648 : Int))))) f6 (fun g10 => ?_) (fun g10 => ?_)
    · have h := ctrue h g10
      refine e_last ?_
      refine k_mov f5 ?_
      refine k_bin rfl rfl rfl ?_
      refine k_mov rfl ?_
      obtain ⟨u11, e12, h⟩ := bnd_e h
      refine k_nil ?_
      have q0 := Option.some.inj h
      obtain rfl := q0
      exact ⟨rfl, (cgI e12), (by repeat (first | exact (Keep.refl _ _ _ _) | refine Keep.upd ?_ rfl _)), rfl⟩
    · have h := cfalse h g10
      refine wpE_skip ?_
      have q0 := Option.some.inj h
      obtain rfl := q0
      exact ⟨rfl, f5, (by repeat (first | exact (Keep.refl _ _ _ _) | refine Keep.upd ?_ rfl _)), rfl⟩
  rintro _ σ14 _ _ ⟨rfl, f13, k16, rfl⟩
  show wpE _ _ _ _ _ _ _ _
  refine e_reg ?_
  refine k_mov f13 ?_
  refine k_mov rfl ?_
  refine k_nil ?_
  refine wpE_ret ?_
  obtain rfl := Option.some.inj h
  exact e_ret (ct := 0) (.tmp rfl (back_sc rfl) .nil) rfl
end Go.Proofs.YtcbepglkfglclaaDoor
