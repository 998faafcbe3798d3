/-
  The small code of functions comes to the Lean functions. Printed by a program of mine.
-/
import Derived.Test.YtcbepglkfglclaaDoorHM11Sb
namespace Go.Proofs.YtcbepglkfglclaaDoor
open Go Go.Abs
set_option maxRecDepth 100000
set_option maxHeartbeats 1000000
/-- strings.Trim -/
theorem s132 {x0 x1 : List UInt8} {r : List UInt8} (h : F132_trim x0 x1 = some r) : pc L 132 [.c (I (.str x0)), .c (I (.str x1))] true (P132 r) := by
  unfold F132_trim at h
  split at h
  · rename_i hk
    obtain rfl := Option.some.inj h
    intro lent _
    refine ⟨[.c (I (.str _))], ?_, rfl⟩
    unfold pureCall
    rw [show L 132 _ [] = some ([.c (I (.str (Lib.trimS x0 x1)))], []) from lim_x rfl _ _ (by show (if trimOk x0 x1 then _ else _) = _; rw [if_pos hk])]
    cases lent <;> rfl
  · simp at h
/-- hookflash/number.IsKey -/
theorem s110 {x0 : List UInt8} {r : Bool}  (h : F110_number_IsKey x0 = some r) : pc L 110 [.c (I (.str x0))] true (P110 r) := by
  refine fn_pure (fn := ir110) rfl (Nat.le_of_ble_eq_true rfl) fun lent hl => ?_
  unfold F110_number_IsKey at h
  refine e_reg ?_
  refine k_mov rfl ?_
  refine k_nil ?_
  refine e_reg ?_
  refine k_mov rfl ?_
  refine k_lenS rfl ?_
  refine k_bin rfl rfl rfl ?_
  refine k_mov rfl ?_
  refine gL fun σ1 e2 => ?_
  have f3 : σ1 0 = V (.str x0) := (congrFun e2 0).trans rfl
  have f4 : σ1 6 = V (.bool ((decide (((List.length x0 : Int)) ≥ ((1 : Int)))))) := (congrFun e2 6).trans rfl
  refine k_mid (fun σ' hp' _ => [] = hp' ∧ σ' 10 = V (.bool (((decide (((List.length x0 : Int)) ≥ ((1 : Int)))) && (decide (((List.length x0 : Int)) ≤ ((40 : Int))))))) ∧ Keep [] 7 10 σ1 σ') ?_ ?_
  · rcases bt ((decide (((List.length x0 : Int)) ≥ ((1 : Int))))) with g5 | g5
    · refine k_yes (f4.trans (cgB g5)) ?_
      refine k_mov f3 ?_
      refine k_yes (f4.trans (cgB g5)) ?_
      refine k_lenS rfl ?_
      refine k_yes (f4.trans (cgB g5)) ?_
      refine k_bin rfl rfl rfl ?_
      refine k_pickT (f4.trans (cgB g5)) rfl ?_
      exact ⟨rfl, cgB (by rw [g5]; rfl), (by repeat (first | exact (Keep.refl _ _ _ _) | refine Keep.upd ?_ rfl _))⟩
    · refine k_no (f4.trans (cgB g5)) rfl ?_
      refine k_no (f4.trans (cgB g5)) rfl ?_
      refine k_no (f4.trans (cgB g5)) rfl ?_
      refine k_pickF (f4.trans (cgB g5)) rfl ?_
      exact ⟨rfl, cgB (by rw [g5]; rfl), (by repeat (first | exact (Keep.refl _ _ _ _) | refine Keep.upd ?_ rfl _))⟩
  rintro σ6 _ _ ⟨rfl, f8, k7⟩
  have f9 : σ6 0 = V (.str x0) := (k7 0 rfl).trans f3
  refine k_mov f8 ?_
  refine gL fun σ10 e11 => ?_
  have f12 : σ10 0 = V (.str x0) := (congrFun e11 0).trans f9
  have f13 : σ10 11 = V (.bool (((decide (((List.length x0 : Int)) ≥ ((1 : Int)))) && (decide (((List.length x0 : Int)) ≤ ((40 : Int))))))) := (congrFun e11 11).trans rfl
  obtain ⟨y17, e18, h⟩ := obind h
  refine k_mid (fun σ' hp' _ => [] = hp' ∧ σ' 15 = V (.bool y17) ∧ Keep [] 12 15 σ10 σ') ?_ ?_
  · rcases bt (((decide (((List.length x0 : Int)) ≥ ((1 : Int)))) && (decide (((List.length x0 : Int)) ≤ ((40 : Int)))))) with g14 | g14
    · have h := ctrue e18 g14
      refine k_yes (f13.trans (cgB g14)) ?_
      refine k_mov f12 ?_
      refine k_yes (f13.trans (cgB g14)) ?_
      obtain ⟨y15, e16, h⟩ := obind h
      refine k_idxS rfl rfl e16 ?_
      refine k_yes (f13.trans (cgB g14)) ?_
      refine k_bin rfl rfl rfl ?_
      refine k_pickT (f13.trans (cgB g14)) rfl ?_
      exact ⟨rfl, cgB (Option.some.inj h), (by repeat (first | exact (Keep.refl _ _ _ _) | refine Keep.upd ?_ rfl _))⟩
    · have h := cfalse e18 g14
      refine k_no (f13.trans (cgB g14)) rfl ?_
      refine k_no (f13.trans (cgB g14)) rfl ?_
      refine k_no (f13.trans (cgB g14)) rfl ?_
      refine k_pickF (f13.trans (cgB g14)) rfl ?_
      exact ⟨rfl, cgB (Option.some.inj h), (by repeat (first | exact (Keep.refl _ _ _ _) | refine Keep.upd ?_ rfl _))⟩
  rintro σ19 _ _ ⟨rfl, f21, k20⟩
  have f22 : σ19 0 = V (.str x0) := (k20 0 rfl).trans f12
  refine k_mov f21 ?_
  refine gL fun σ23 e24 => ?_
  have f25 : σ23 0 = V (.str x0) := (congrFun e24 0).trans f22
  have f26 : σ23 16 = V (.bool y17) := (congrFun e24 16).trans rfl
  obtain ⟨y30, e31, h⟩ := obind h
  refine k_mid (fun σ' hp' _ => [] = hp' ∧ σ' 20 = V (.bool y30) ∧ Keep [] 17 20 σ23 σ') ?_ ?_
  · rcases bt y17 with g27 | g27
    · have h := ctrue e31 g27
      refine k_yes (f26.trans (cgB g27)) ?_
      refine k_mov f25 ?_
      refine k_yes (f26.trans (cgB g27)) ?_
      obtain ⟨y28, e29, h⟩ := obind h
      refine k_idxS rfl rfl e29 ?_
      refine k_yes (f26.trans (cgB g27)) ?_
      refine k_bin rfl rfl rfl ?_
      refine k_pickT (f26.trans (cgB g27)) rfl ?_
      exact ⟨rfl, cgB (Option.some.inj h), (by repeat (first | exact (Keep.refl _ _ _ _) | refine Keep.upd ?_ rfl _))⟩
    · have h := cfalse e31 g27
      refine k_no (f26.trans (cgB g27)) rfl ?_
      refine k_no (f26.trans (cgB g27)) rfl ?_
      refine k_no (f26.trans (cgB g27)) rfl ?_
      refine k_pickF (f26.trans (cgB g27)) rfl ?_
      exact ⟨rfl, cgB (Option.some.inj h), (by repeat (first | exact (Keep.refl _ _ _ _) | refine Keep.upd ?_ rfl _))⟩
  rintro σ32 _ _ ⟨rfl, f34, k33⟩
  have f35 : σ32 0 = V (.str x0) := (k33 0 rfl).trans f25
  refine k_mov f34 ?_
  refine gL fun σ36 e37 => ?_
  have f38 : σ36 0 = V (.str x0) := (congrFun e37 0).trans f35
  have f39 : σ36 21 = V (.bool y30) := (congrFun e37 21).trans rfl
  obtain ⟨y44, e45, h⟩ := obind h
  refine k_mid (fun σ' hp' _ => [] = hp' ∧ σ' 25 = V (.bool y44) ∧ Keep [] 22 25 σ36 σ') ?_ ?_
  · rcases bt y30 with g40 | g40
    · have h := ctrue e45 g40
      refine k_yes (f39.trans (cgB g40)) ?_
      refine k_mov f38 ?_
      refine k_yes (f39.trans (cgB g40)) ?_
      obtain ⟨y41, e42, h⟩ := obind h
      refine k_call (.cons rfl rfl (.cons rfl rfl .nil)) (s132  e42) (.inl rfl) ?_
      rintro _ rfl
      refine k_yes (f39.trans (cgB g40)) ?_
      refine k_bin rfl rfl rfl ?_
      refine k_pickT (f39.trans (cgB g40)) rfl ?_
      exact ⟨rfl, cgB (Option.some.inj h), (by repeat (first | exact (Keep.refl _ _ _ _) | refine Keep.upd ?_ rfl _))⟩
    · have h := cfalse e45 g40
      refine k_no (f39.trans (cgB g40)) rfl ?_
      refine k_no (f39.trans (cgB g40)) rfl ?_
      refine k_no (f39.trans (cgB g40)) rfl ?_
      refine k_pickF (f39.trans (cgB g40)) rfl ?_
      exact ⟨rfl, cgB (Option.some.inj h), (by repeat (first | exact (Keep.refl _ _ _ _) | refine Keep.upd ?_ rfl _))⟩
  rintro σ46 _ _ ⟨rfl, f48, k47⟩
  refine k_mov f48 ?_
  refine k_nil ?_
  refine wpE_ret ?_
  obtain rfl := Option.some.inj h
  exact e_ret (ct := 0) (.tmp rfl (back_sc rfl) .nil) rfl
/-- hookflash/dialplan.within -/
theorem s134 {x0 : Int} {x1 : Int} {x2 : Int} {r : Bool}  (h : F134_dialplan_within x0 x1 x2 = some r) : pc L 134 [.c (I (.int .i64 x0)), .c (I (.int .i64 x1)), .c (I (.int .i64 x2))] true (P134 r) := by
  refine fn_pure (fn := ir134) rfl (Nat.le_of_ble_eq_true rfl) fun lent hl => ?_
  unfold F134_dialplan_within at h
  refine e_reg ?_
  refine k_mov rfl ?_
  refine k_nil ?_
  refine e_reg ?_
  refine k_mov rfl ?_
  refine k_mov rfl ?_
  refine k_bin rfl rfl rfl ?_
  refine k_mov rfl ?_
  refine gL fun σ1 e2 => ?_
  have f3 : σ1 0 = V (.int .i64 x0) := (congrFun e2 0).trans rfl
  have f4 : σ1 2 = V (.int .i64 x2) := (congrFun e2 2).trans rfl
  have f5 : σ1 10 = V (.bool ((decide (x0 ≥ x1)))) := (congrFun e2 10).trans rfl
  refine k_mid (fun σ' hp' _ => [] = hp' ∧ σ' 14 = V (.bool (((decide (x0 ≥ x1)) && (decide (x0 ≤ x2))))) ∧ Keep [] 11 14 σ1 σ') ?_ ?_
  · rcases bt ((decide (x0 ≥ x1))) with g6 | g6
    · refine k_yes (f5.trans (cgB g6)) ?_
      refine k_mov f3 ?_
      refine k_yes (f5.trans (cgB g6)) ?_
      refine k_mov f4 ?_
      refine k_yes (f5.trans (cgB g6)) ?_
      refine k_bin rfl rfl rfl ?_
      refine k_pickT (f5.trans (cgB g6)) rfl ?_
      exact ⟨rfl, cgB (by rw [g6]; rfl), (by repeat (first | exact (Keep.refl _ _ _ _) | refine Keep.upd ?_ rfl _))⟩
    · refine k_no (f5.trans (cgB g6)) rfl ?_
      refine k_no (f5.trans (cgB g6)) rfl ?_
      refine k_no (f5.trans (cgB g6)) rfl ?_
      refine k_pickF (f5.trans (cgB g6)) rfl ?_
      exact ⟨rfl, cgB (by rw [g6]; rfl), (by repeat (first | exact (Keep.refl _ _ _ _) | refine Keep.upd ?_ rfl _))⟩
  rintro σ7 _ _ ⟨rfl, f9, k8⟩
  refine k_mov f9 ?_
  obtain ⟨u10, e11, h⟩ := bnd_e h
  refine k_nil ?_
  refine wpE_ret ?_
  obtain rfl := Option.some.inj h
  exact e_ret (ct := 0) (.tmp (cgB e11) (back_sc rfl) .nil) rfl
/-- hookflash/dialplan.isTime -/
theorem s163 {x0 : Int} {x1 : Int} {r : Bool}  (h : F163_dialplan_isTime x0 x1 = some r) : pc L 163 [.c (I (.int .i64 x0)), .c (I (.int .i64 x1))] true (P163 r) := by
  refine fn_pure (fn := ir163) rfl (Nat.le_of_ble_eq_true rfl) fun lent hl => ?_
  unfold F163_dialplan_isTime at h
  refine e_reg ?_
  refine k_mov rfl ?_
  refine k_nil ?_
  refine e_reg ?_
  refine k_mov rfl ?_
  refine k_bin rfl rfl rfl ?_
  refine k_mov rfl ?_
  refine gL fun σ1 e2 => ?_
  have f3 : σ1 0 = V (.int .i64 x0) := (congrFun e2 0).trans rfl
  have f4 : σ1 1 = V (.int .i64 x1) := (congrFun e2 1).trans rfl
  have f5 : σ1 7 = V (.bool ((decide (x0 ≥ ((0 : Int)))))) := (congrFun e2 7).trans rfl
  refine k_mid (fun σ' hp' _ => [] = hp' ∧ σ' 11 = V (.bool (((decide (x0 ≥ ((0 : Int)))) && (decide (x0 < x1))))) ∧ Keep [] 8 11 σ1 σ') ?_ ?_
  · rcases bt ((decide (x0 ≥ ((0 : Int))))) with g6 | g6
    · refine k_yes (f5.trans (cgB g6)) ?_
      refine k_mov f3 ?_
      refine k_yes (f5.trans (cgB g6)) ?_
      refine k_mov f4 ?_
      refine k_yes (f5.trans (cgB g6)) ?_
      refine k_bin rfl rfl rfl ?_
      refine k_pickT (f5.trans (cgB g6)) rfl ?_
      exact ⟨rfl, cgB (by rw [g6]; rfl), (by repeat (first | exact (Keep.refl _ _ _ _) | refine Keep.upd ?_ rfl _))⟩
    · refine k_no (f5.trans (cgB g6)) rfl ?_
      refine k_no (f5.trans (cgB g6)) rfl ?_
      refine k_no (f5.trans (cgB g6)) rfl ?_
      refine k_pickF (f5.trans (cgB g6)) rfl ?_
      exact ⟨rfl, cgB (by rw [g6]; rfl), (by repeat (first | exact (Keep.refl _ _ _ _) | refine Keep.upd ?_ rfl _))⟩
  rintro σ7 _ _ ⟨rfl, f9, k8⟩
  have f10 : σ7 1 = V (.int .i64 x1) := (k8 1 rfl).trans f4
  refine k_mov f9 ?_
  refine gL fun σ11 e12 => ?_
  have f13 : σ11 1 = V (.int .i64 x1) := (congrFun e12 1).trans f10
  have f14 : σ11 12 = V (.bool (((decide (x0 ≥ ((0 : Int)))) && (decide (x0 < x1))))) := (congrFun e12 12).trans rfl
  refine k_mid (fun σ' hp' _ => [] = hp' ∧ σ' 15 = V (.bool ((((decide (x0 ≥ ((0 : Int)))) && (decide (x0 < x1))) && (decide (x1 ≤ ((1440 : Int))))))) ∧ Keep [] 13 15 σ11 σ') ?_ ?_
  · rcases bt (((decide (x0 ≥ ((0 : Int)))) && (decide (x0 < x1)))) with g15 | g15
    · refine k_yes (f14.trans (cgB g15)) ?_
      refine k_mov f13 ?_
      refine k_yes (f14.trans (cgB g15)) ?_
      refine k_bin rfl rfl rfl ?_
      refine k_pickT (f14.trans (cgB g15)) rfl ?_
      exact ⟨rfl, cgB (by rw [g15]; rfl), (by repeat (first | exact (Keep.refl _ _ _ _) | refine Keep.upd ?_ rfl _))⟩
    · refine k_no (f14.trans (cgB g15)) rfl ?_
      refine k_no (f14.trans (cgB g15)) rfl ?_
      refine k_pickF (f14.trans (cgB g15)) rfl ?_
      exact ⟨rfl, cgB (by rw [g15]; rfl), (by repeat (first | exact (Keep.refl _ _ _ _) | refine Keep.upd ?_ rfl _))⟩
  rintro σ16 _ _ ⟨rfl, f18, k17⟩
  refine k_mov f18 ?_
  obtain ⟨u19, e20, h⟩ := bnd_e h
  refine k_nil ?_
  refine wpE_ret ?_
  obtain rfl := Option.some.inj h
  exact e_ret (ct := 0) (.tmp (cgB e20) (back_sc rfl) .nil) rfl
/-- hookflash/dialplan.checkTimes -/
theorem s135 {x0 : T_api_Hours} {cx0 : List IV} {r : Int} (hx0 : R_api_Hours.rp false cx0 x0) (h : F135_dialplan_checkTimes x0 = some r) : pc L 135 [.agg (cx0.map I)] true (P135 r) := by
  refine fn_pure (fn := ir135) rfl (Nat.le_of_ble_eq_true rfl) fun lent hl => ?_
  unfold F135_dialplan_checkTimes at h
  obtain ⟨v1, v3, rfl, q2, q4⟩ := R_api_Hours.inv hx0
  refine e_reg ?_
  refine k_box rfl rfl fun g5 hp6 k7 r8 => ?_
  refine k_mov rfl ?_
  refine k_nil ?_
  refine wpE_seq ?_
  refine e_reg ?_
  refine k_fadrB (o := 2) rfl k7 ?_
  refine k_loadB rfl k7 rfl ?_
  refine k_len rfl (sv.any [] _ q2) ?_
  refine k_bin rfl rfl rfl ?_
  refine k_nil ?_
  refine wpE_cond (p := (decide (((List.length x0.Rows : Int)) > ((50 : Int))))) rfl (fun g9 => ?_) (fun g9 => ?_)
  · have h := ctrue h g9
    refine e_reg ?_
    refine k_mov rfl ?_
    refine k_nil ?_
    refine wpE_ret ?_
    obtain rfl := Option.some.inj h
    exact e_ret (ct := 0) (.tmp rfl (back_sc rfl) .nil) rfl
  · have h := cfalse h g9
    refine wpE_skip ?_
    show wpE _ _ _ _ _ _ _ _
    refine wpE_seq ?_
    refine e_reg ?_
    refine k_fadrB (o := 2) rfl k7 ?_
    refine k_loadB rfl k7 rfl ?_
    refine k_len rfl (sv.any [] _ q2) ?_
    refine k_mov rfl ?_
    refine k_nil ?_
    refine wpE_block ?_
    refine gE fun σ10 e11 => ?_
    have f12 : σ10 1 = .v (.c (.r (.ptr 1 g5 0))) := (congrFun e11 1).trans rfl
    have f13 : σ10 12 = .v (.c ((I v1))) := (congrFun e11 12).trans rfl
    have f14 : σ10 13 = V (.int .i64 ((List.length x0.Rows : Int))) := (congrFun e11 13).trans rfl
    have f15 : σ10 14 = V (.int .i64 ((0 : Int))) := (congrFun e11 14).trans rfl
    obtain ⟨e16, h17, h⟩ := lret_e h
    refine wpE_mono (e_loop h17 (I := fun s σ' hp' _ => σ' 14 = V (.int .i64 s) ∧ Keep [2, 4] 14 30 σ10 σ' ∧ Fr [4] hp6 hp') (X := fun e ex σ' hp' _ => match e with | .inl e => ex = .exit 0 ∧ Keep [2, 4] 14 30 σ10 σ' ∧ Fr [4] hp6 hp' | .inr r => ex = .ret ∧ ∀ ct, atEnd 80 [Res.tmp 2] (fin lent (P135 r)) .ret σ' hp' ct) ⟨f15, Keep.refl _ _ _ _, Fr.refl _ _⟩ ?_) ?_
    · clear h
      rintro w18 o σ20 hp21 _ h ⟨f19, k22, r23⟩
      have h : F135_dialplan_checkTimes_l0 x0 w18 = some o := h; unfold F135_dialplan_checkTimes_l0 at h
      have f24 : σ20 1 = .v (.c (.r (.ptr 1 g5 0))) := (k22 1 rfl).trans f12
      have f25 : σ20 12 = .v (.c ((I v1))) := (k22 12 rfl).trans f13
      have f26 : σ20 13 = V (.int .i64 ((List.length x0.Rows : Int))) := (k22 13 rfl).trans f14
      have k27 := (r23 1 (by decide)).trans k7
      show wpE _ _ _ _ _ _ _ _
      refine e_reg ?_
      refine k_bin f19 f26 rfl ?_
      refine k_nil ?_
      refine wpE_seq ?_
      refine wpE_cond (p := (decide (w18 < ((List.length x0.Rows : Int))))) rfl (fun g28 => ?_) (fun g28 => ?_)
      · have h := ctrue h g28
        refine wpE_skip ?_
        show wpE _ _ _ _ _ _ _ _
        refine wpE_seq ?_
        refine wpE_block ?_
        refine e_reg ?_
        obtain ⟨y29, e30, h⟩ := obind h
        refine k_iadrL f25 (sv.any [] _ q2) f19 e30 rfl fun p31 c32 q33 h34 => ?_
        obtain ⟨_, rfl⟩ := R_api_Row.inv h34
        refine k_loadL rfl q33 rfl ?_
        refine k_alloc fun g35 hp36 k37 r38 => ?_
        have r39 : Fr [4] hp6 hp36 := Fr.ext r23 r38 rfl
        have k40 := (r38 1 (by decide)).trans k27
        refine k_storeB rfl rfl k37 rfl fun hp41 k42 r43 => ?_
        have r44 : Fr [4] hp6 hp41 := Fr.ext r39 r43 rfl
        have k45 := (r43 1 (by decide)).trans k40
        refine k_nil ?_
        refine e_reg ?_
        refine k_fadrB (o := 0) rfl k42 ?_
        refine k_loadB rfl k42 rfl ?_
        obtain ⟨y46, e47, h⟩ := obind h
        refine k_call (.cons rfl rfl (.cons rfl rfl (.cons rfl rfl .nil))) (s134  e47) (.inl rfl) ?_
        rintro _ rfl
        refine k_not rfl ?_
        refine k_mov rfl ?_
        refine gL fun σ49 e50 => ?_
        have k51 : Keep [2, 4] 14 30 σ10 σ49 := by rw [e50]; repeat (first | exact k22 | refine Keep.upd ?_ rfl _)
        have f52 : σ49 1 = .v (.c (.r (.ptr 1 g5 0))) := (congrFun e50 1).trans f24
        have f53 : σ49 12 = .v (.c ((I v1))) := (congrFun e50 12).trans f25
        have f54 : σ49 13 = V (.int .i64 ((List.length x0.Rows : Int))) := (congrFun e50 13).trans f26
        have f55 : σ49 14 = V (.int .i64 w18) := (congrFun e50 14).trans f19
        have f56 : σ49 4 = .v (.c (.r (.ptr 4 g35 0))) := (congrFun e50 4).trans rfl
        have f57 : σ49 22 = V (.bool (!y46)) := (congrFun e50 22).trans rfl
        obtain ⟨y62, e63, h⟩ := obind h
        refine k_mid (fun σ' hp' _ => hp41 = hp' ∧ σ' 29 = V (.bool y62) ∧ Keep [] 23 29 σ49 σ') ?_ ?_
        · rcases bt (!y46) with g58 | g58
          · have h := ctrue e63 g58
            refine k_no (f57.trans (cgB g58)) rfl ?_
            refine k_no (f57.trans (cgB g58)) rfl ?_
            refine k_no (f57.trans (cgB g58)) rfl ?_
            refine k_no (f57.trans (cgB g58)) rfl ?_
            refine k_no (f57.trans (cgB g58)) rfl ?_
            refine k_no (f57.trans (cgB g58)) rfl ?_
            refine k_pickT (f57.trans (cgB g58)) rfl ?_
            exact ⟨rfl, cgB (Option.some.inj h), (by repeat (first | exact (Keep.refl _ _ _ _) | refine Keep.upd ?_ rfl _))⟩
          · have h := cfalse e63 g58
            refine k_yes (f57.trans (cgB g58)) ?_
            refine k_fadrB (o := 1) f56 k42 ?_
            refine k_yes (f57.trans (cgB g58)) ?_
            refine k_loadB rfl k42 rfl ?_
            refine k_yes (f57.trans (cgB g58)) ?_
            refine k_fadrB (o := 2) f56 k42 ?_
            refine k_yes (f57.trans (cgB g58)) ?_
            refine k_loadB rfl k42 rfl ?_
            refine k_yes (f57.trans (cgB g58)) ?_
            obtain ⟨y59, e60, h⟩ := obind h
            refine k_call (.cons rfl rfl (.cons rfl rfl .nil)) (s163  e60) (.inl rfl) ?_
            rintro _ rfl
            refine k_yes (f57.trans (cgB g58)) ?_
            refine k_not rfl ?_
            refine k_pickF (f57.trans (cgB g58)) rfl ?_
            exact ⟨rfl, cgB (Option.some.inj h), (by repeat (first | exact (Keep.refl _ _ _ _) | refine Keep.upd ?_ rfl _))⟩
        rintro σ64 _ _ ⟨rfl, f66, k65⟩
        have f67 : σ64 1 = .v (.c (.r (.ptr 1 g5 0))) := (k65 1 rfl).trans f52
        have f68 : σ64 12 = .v (.c ((I v1))) := (k65 12 rfl).trans f53
        have f69 : σ64 13 = V (.int .i64 ((List.length x0.Rows : Int))) := (k65 13 rfl).trans f54
        have f70 : σ64 14 = V (.int .i64 w18) := (k65 14 rfl).trans f55
        have k71 : Keep [2, 4] 14 30 σ10 σ64 := Keep.trans k51 (Keep.sub k65 rfl)
        refine k_nil ?_
        refine wpE_cond (p := y62) f66 (fun g72 => ?_) (fun g72 => ?_)
        · have h := ctrue h g72
          refine e_reg ?_
          refine k_mov rfl ?_
          refine k_nil ?_
          refine wpE_ret ?_
          obtain rfl := Option.some.inj h
          exact ⟨by decide, rfl, fun _ => e_ret (ct := 0) (.tmp rfl (back_sc rfl) .nil) rfl⟩
        · have h := cfalse h g72
          refine wpE_skip ?_
          show wpE _ _ _ _ _ _ _ _
          refine e_last ?_
          refine k_bin f70 rfl rfl ?_
          refine k_mov rfl ?_
          refine k_nil ?_
          obtain rfl := Option.some.inj h
          exact ⟨rfl, rfl, (by repeat (first | exact k71 | refine Keep.upd ?_ rfl _)), r44⟩
      · have h := cfalse h g28
        refine wpE_exit ?_
        obtain rfl := Option.some.inj h
        exact ⟨by decide, rfl, (by repeat (first | exact k22 | refine Keep.upd ?_ rfl _)), r23⟩
    rcases e16 with _ | r1
    rotate_left
    · rintro _ _ _ _ ⟨rfl, hX⟩
      obtain rfl := Option.some.inj h
      exact hX 0
    rintro _ σ73 hp74 _ ⟨rfl, k75, r76⟩
    have f77 : σ73 1 = .v (.c (.r (.ptr 1 g5 0))) := (k75 1 rfl).trans f12
    have k78 := (r76 1 (by decide)).trans k7
    show wpE _ _ _ _ _ _ _ _
    refine wpE_seq ?_
    refine e_reg ?_
    refine k_fadrB (o := 3) f77 k78 ?_
    refine k_loadB rfl k78 rfl ?_
    refine k_len rfl (sv.any [] _ q4) ?_
    refine k_bin rfl rfl rfl ?_
    refine k_nil ?_
    refine wpE_cond (p := (decide (((List.length x0.Holidays : Int)) > ((200 : Int))))) rfl (fun g79 => ?_) (fun g79 => ?_)
    · have h := ctrue h g79
      refine e_reg ?_
      refine k_mov rfl ?_
      refine k_nil ?_
      refine wpE_ret ?_
      obtain rfl := Option.some.inj h
      exact e_ret (ct := 0) (.tmp rfl (back_sc rfl) .nil) rfl
    · have h := cfalse h g79
      refine wpE_skip ?_
      show wpE _ _ _ _ _ _ _ _
      refine wpE_seq ?_
      refine e_reg ?_
      refine k_fadrB (o := 3) f77 k78 ?_
      refine k_loadB rfl k78 rfl ?_
      refine k_len rfl (sv.any [] _ q4) ?_
      refine k_mov rfl ?_
      refine k_nil ?_
      refine wpE_block ?_
      refine gE fun σ80 e81 => ?_
      have f82 : σ80 1 = .v (.c (.r (.ptr 1 g5 0))) := (congrFun e81 1).trans f77
      have f83 : σ80 36 = .v (.c ((I v3))) := (congrFun e81 36).trans rfl
      have f84 : σ80 37 = V (.int .i64 ((List.length x0.Holidays : Int))) := (congrFun e81 37).trans rfl
      have f85 : σ80 38 = V (.int .i64 ((0 : Int))) := (congrFun e81 38).trans rfl
      obtain ⟨e86, h87, h⟩ := lret_e h
      refine wpE_mono (e_loop h87 (I := fun s σ' hp' _ => σ' 38 = V (.int .i64 s) ∧ Keep [2, 5, 6] 38 79 σ80 σ' ∧ Fr [6] hp74 hp') (X := fun e ex σ' hp' _ => match e with | .inl e => ex = .exit 2 ∧ Keep [2, 5, 6] 38 79 σ80 σ' ∧ Fr [6] hp74 hp' | .inr r => ex = .ret ∧ ∀ ct, atEnd 80 [Res.tmp 2] (fin lent (P135 r)) .ret σ' hp' ct) ⟨f85, Keep.refl _ _ _ _, Fr.refl _ _⟩ ?_) ?_
      · clear h
        rintro w88 o σ90 hp91 _ h ⟨f89, k92, r93⟩
        have h : F135_dialplan_checkTimes_l1 x0 w88 = some o := h; unfold F135_dialplan_checkTimes_l1 at h
        have f94 : σ90 1 = .v (.c (.r (.ptr 1 g5 0))) := (k92 1 rfl).trans f82
        have f95 : σ90 36 = .v (.c ((I v3))) := (k92 36 rfl).trans f83
        have f96 : σ90 37 = V (.int .i64 ((List.length x0.Holidays : Int))) := (k92 37 rfl).trans f84
        have k97 := (r93 1 (by decide)).trans k78
        show wpE _ _ _ _ _ _ _ _
        refine e_reg ?_
        refine k_bin f89 f96 rfl ?_
        refine k_nil ?_
        refine wpE_seq ?_
        refine wpE_cond (p := (decide (w88 < ((List.length x0.Holidays : Int))))) rfl (fun g98 => ?_) (fun g98 => ?_)
        · have h := ctrue h g98
          refine wpE_skip ?_
          show wpE _ _ _ _ _ _ _ _
          refine wpE_seq ?_
          refine wpE_block ?_
          refine e_reg ?_
          refine k_mov f89 ?_
          obtain ⟨y99, e100, h⟩ := obind h
          refine k_iadrL f95 (sv.any [] _ q4) f89 e100 rfl fun p101 c102 q103 h104 => ?_
          obtain ⟨_, rfl⟩ := R_api_Holiday.inv h104
          refine k_loadL rfl q103 rfl ?_
          refine k_alloc fun g105 hp106 k107 r108 => ?_
          have r109 : Fr [6] hp74 hp106 := Fr.ext r93 r108 rfl
          have k110 := (r108 1 (by decide)).trans k97
          refine k_mov rfl ?_
          refine k_storeB rfl rfl k107 rfl fun hp111 k112 r113 => ?_
          have r114 : Fr [6] hp74 hp111 := Fr.ext r109 r113 rfl
          have k115 := (r113 1 (by decide)).trans k110
          refine k_nil ?_
          refine wpE_seq ?_
          refine e_reg ?_
          refine k_fadrB (o := 0) rfl k112 ?_
          refine k_loadB rfl k112 rfl ?_
          obtain ⟨y116, e117, h⟩ := obind h
          refine k_call (.cons rfl rfl (.cons rfl rfl (.cons rfl rfl .nil))) (s134  e117) (.inl rfl) ?_
          rintro _ rfl
          refine k_not rfl ?_
          refine k_mov rfl ?_
          refine gL fun σ119 e120 => ?_
          have k121 : Keep [2, 5, 6] 38 79 σ80 σ119 := by rw [e120]; repeat (first | exact k92 | refine Keep.upd ?_ rfl _)
          have f122 : σ119 1 = .v (.c (.r (.ptr 1 g5 0))) := (congrFun e120 1).trans f94
          have f123 : σ119 36 = .v (.c ((I v3))) := (congrFun e120 36).trans f95
          have f124 : σ119 37 = V (.int .i64 ((List.length x0.Holidays : Int))) := (congrFun e120 37).trans f96
          have f125 : σ119 38 = V (.int .i64 w88) := (congrFun e120 38).trans f89
          have f126 : σ119 6 = .v (.c (.r (.ptr 6 g105 0))) := (congrFun e120 6).trans rfl
          have f127 : σ119 5 = V (.int .i64 w88) := (congrFun e120 5).trans rfl
          have f128 : σ119 47 = V (.bool (!y116)) := (congrFun e120 47).trans rfl
          obtain ⟨y181, e182, h⟩ := obind h
          refine k_mid (fun σ' hp' _ => hp111 = hp' ∧ σ' 64 = V (.bool y181) ∧ Keep [] 48 64 σ119 σ') ?_ ?_
          · rcases bt (!y116) with g129 | g129
            · have h := ctrue e182 g129
              refine k_no (f128.trans (cgB g129)) rfl ?_
              refine k_no (f128.trans (cgB g129)) rfl ?_
              refine k_no (f128.trans (cgB g129)) rfl ?_
              refine k_no (f128.trans (cgB g129)) rfl ?_
              refine k_noS rfl ?_
              refine k_noS rfl ?_
              refine k_noS rfl ?_
              refine k_no (f128.trans (cgB g129)) rfl ?_
              refine k_no (f128.trans (cgB g129)) rfl ?_
              refine k_noS rfl ?_
              refine k_noS rfl ?_
              refine k_noS rfl ?_
              refine k_noS rfl ?_
              refine k_noS rfl ?_
              refine k_noS rfl ?_
              refine k_no (f128.trans (cgB g129)) rfl ?_
              refine k_pickT (f128.trans (cgB g129)) rfl ?_
              exact ⟨rfl, cgB (Option.some.inj h), (by repeat (first | exact (Keep.refl _ _ _ _) | refine Keep.upd ?_ rfl _))⟩
            · have h := cfalse e182 g129
              refine k_yes (f128.trans (cgB g129)) ?_
              refine k_fadrB (o := 1) f126 k112 ?_
              refine k_yes (f128.trans (cgB g129)) ?_
              refine k_loadB rfl k112 rfl ?_
              refine k_yes (f128.trans (cgB g129)) ?_
              refine k_bin rfl rfl rfl ?_
              refine k_yes (f128.trans (cgB g129)) ?_
              refine k_mov rfl ?_
              refine gL fun σ130 e131 => ?_
              have k132 : Keep [] 48 64 σ119 σ130 := by rw [e131]; repeat (first | exact (Keep.refl _ _ _ _) | refine Keep.upd ?_ rfl _)
              have f133 : σ130 1 = .v (.c (.r (.ptr 1 g5 0))) := (congrFun e131 1).trans f122
              have f134 : σ130 36 = .v (.c ((I v3))) := (congrFun e131 36).trans f123
              have f135 : σ130 37 = V (.int .i64 ((List.length x0.Holidays : Int))) := (congrFun e131 37).trans f124
              have f136 : σ130 38 = V (.int .i64 w88) := (congrFun e131 38).trans f125
              have f137 : σ130 6 = .v (.c (.r (.ptr 6 g105 0))) := (congrFun e131 6).trans f126
              have f138 : σ130 5 = V (.int .i64 w88) := (congrFun e131 5).trans f127
              have f139 : σ130 47 = V (.bool false) := (congrFun e131 47).trans (f128.trans (cgB g129))
              have f140 : σ130 51 = V (.bool ((y99.From != ((0 : Int))))) := (congrFun e131 51).trans rfl
              refine k_mid (fun σ' hp' _ => hp111 = hp' ∧ σ' 55 = V (.bool (((y99.From != ((0 : Int))) || (y99.To != ((0 : Int)))))) ∧ Keep [] 52 55 σ130 σ') ?_ ?_
              · rcases bt ((y99.From != ((0 : Int)))) with g141 | g141
                · refine k_no (f140.trans (cgB g141)) rfl ?_
                  refine k_no (f140.trans (cgB g141)) rfl ?_
                  refine k_no (f140.trans (cgB g141)) rfl ?_
                  refine k_yes f139 ?_
                  refine k_pickT (f140.trans (cgB g141)) rfl ?_
                  exact ⟨rfl, cgB (by rw [g141]; rfl), (by repeat (first | exact (Keep.refl _ _ _ _) | refine Keep.upd ?_ rfl _))⟩
                · refine k_yes (f140.trans (cgB g141)) ?_
                  refine k_fadrB (o := 2) f137 k112 ?_
                  refine k_yes (f140.trans (cgB g141)) ?_
                  refine k_loadB rfl k112 rfl ?_
                  refine k_yes (f140.trans (cgB g141)) ?_
                  refine k_bin rfl rfl rfl ?_
                  refine k_yes f139 ?_
                  refine k_pickF (f140.trans (cgB g141)) rfl ?_
                  exact ⟨rfl, cgB (by rw [g141]; rfl), (by repeat (first | exact (Keep.refl _ _ _ _) | refine Keep.upd ?_ rfl _))⟩
              rintro σ142 _ _ ⟨rfl, f144, k143⟩
              have f145 : σ142 1 = .v (.c (.r (.ptr 1 g5 0))) := (k143 1 rfl).trans f133
              have f146 : σ142 36 = .v (.c ((I v3))) := (k143 36 rfl).trans f134
              have f147 : σ142 37 = V (.int .i64 ((List.length x0.Holidays : Int))) := (k143 37 rfl).trans f135
              have f148 : σ142 38 = V (.int .i64 w88) := (k143 38 rfl).trans f136
              have f149 : σ142 6 = .v (.c (.r (.ptr 6 g105 0))) := (k143 6 rfl).trans f137
              have f150 : σ142 5 = V (.int .i64 w88) := (k143 5 rfl).trans f138
              have f151 : σ142 47 = V (.bool false) := (k143 47 rfl).trans f139
              have k152 : Keep [] 48 64 σ119 σ142 := Keep.trans k132 (Keep.sub k143 rfl)
              refine k_yes f151 ?_
              refine k_mov f144 ?_
              refine gL fun σ153 e154 => ?_
              have k155 : Keep [] 48 64 σ119 σ153 := by rw [e154]; repeat (first | exact k152 | refine Keep.upd ?_ rfl _)
              have f156 : σ153 1 = .v (.c (.r (.ptr 1 g5 0))) := (congrFun e154 1).trans f145
              have f157 : σ153 36 = .v (.c ((I v3))) := (congrFun e154 36).trans f146
              have f158 : σ153 37 = V (.int .i64 ((List.length x0.Holidays : Int))) := (congrFun e154 37).trans f147
              have f159 : σ153 38 = V (.int .i64 w88) := (congrFun e154 38).trans f148
              have f160 : σ153 6 = .v (.c (.r (.ptr 6 g105 0))) := (congrFun e154 6).trans f149
              have f161 : σ153 5 = V (.int .i64 w88) := (congrFun e154 5).trans f150
              have f162 : σ153 47 = V (.bool false) := (congrFun e154 47).trans f151
              have f163 : σ153 56 = V (.bool (((y99.From != ((0 : Int))) || (y99.To != ((0 : Int)))))) := (congrFun e154 56).trans rfl
              obtain ⟨y168, e169, h⟩ := obind h
              refine k_mid (fun σ' hp' _ => hp111 = hp' ∧ σ' 63 = V (.bool y168) ∧ Keep [] 57 63 σ153 σ') ?_ ?_
              · rcases bt (((y99.From != ((0 : Int))) || (y99.To != ((0 : Int))))) with g164 | g164
                · have h := ctrue e169 g164
                  refine k_yes (f163.trans (cgB g164)) ?_
                  refine k_fadrB (o := 1) f160 k112 ?_
                  refine k_yes (f163.trans (cgB g164)) ?_
                  refine k_loadB rfl k112 rfl ?_
                  refine k_yes (f163.trans (cgB g164)) ?_
                  refine k_fadrB (o := 2) f160 k112 ?_
                  refine k_yes (f163.trans (cgB g164)) ?_
                  refine k_loadB rfl k112 rfl ?_
                  refine k_yes (f163.trans (cgB g164)) ?_
                  obtain ⟨y165, e166, h⟩ := obind h
                  refine k_call (.cons rfl rfl (.cons rfl rfl .nil)) (s163  e166) (.inl rfl) ?_
                  rintro _ rfl
                  refine k_yes (f163.trans (cgB g164)) ?_
                  refine k_not rfl ?_
                  refine k_yes f162 ?_
                  refine k_pickT (f163.trans (cgB g164)) rfl ?_
                  exact ⟨rfl, cgB (Option.some.inj h), (by repeat (first | exact (Keep.refl _ _ _ _) | refine Keep.upd ?_ rfl _))⟩
                · have h := cfalse e169 g164
                  refine k_no (f163.trans (cgB g164)) rfl ?_
                  refine k_no (f163.trans (cgB g164)) rfl ?_
                  refine k_no (f163.trans (cgB g164)) rfl ?_
                  refine k_no (f163.trans (cgB g164)) rfl ?_
                  refine k_no (f163.trans (cgB g164)) rfl ?_
                  refine k_no (f163.trans (cgB g164)) rfl ?_
                  refine k_yes f162 ?_
                  refine k_pickF (f163.trans (cgB g164)) rfl ?_
                  exact ⟨rfl, cgB (Option.some.inj h), (by repeat (first | exact (Keep.refl _ _ _ _) | refine Keep.upd ?_ rfl _))⟩
              rintro σ170 _ _ ⟨rfl, f172, k171⟩
              have f173 : σ170 1 = .v (.c (.r (.ptr 1 g5 0))) := (k171 1 rfl).trans f156
              have f174 : σ170 36 = .v (.c ((I v3))) := (k171 36 rfl).trans f157
              have f175 : σ170 37 = V (.int .i64 ((List.length x0.Holidays : Int))) := (k171 37 rfl).trans f158
              have f176 : σ170 38 = V (.int .i64 w88) := (k171 38 rfl).trans f159
              have f177 : σ170 6 = .v (.c (.r (.ptr 6 g105 0))) := (k171 6 rfl).trans f160
              have f178 : σ170 5 = V (.int .i64 w88) := (k171 5 rfl).trans f161
              have f179 : σ170 47 = V (.bool false) := (k171 47 rfl).trans f162
              have k180 : Keep [] 48 64 σ119 σ170 := Keep.trans k155 (Keep.sub k171 rfl)
              refine k_pickF f179 f172 ?_
              exact ⟨rfl, cgB (Option.some.inj h), (by repeat (first | exact k180 | refine Keep.upd ?_ rfl _))⟩
          rintro σ183 _ _ ⟨rfl, f185, k184⟩
          have f186 : σ183 1 = .v (.c (.r (.ptr 1 g5 0))) := (k184 1 rfl).trans f122
          have f187 : σ183 36 = .v (.c ((I v3))) := (k184 36 rfl).trans f123
          have f188 : σ183 37 = V (.int .i64 ((List.length x0.Holidays : Int))) := (k184 37 rfl).trans f124
          have f189 : σ183 38 = V (.int .i64 w88) := (k184 38 rfl).trans f125
          have f190 : σ183 6 = .v (.c (.r (.ptr 6 g105 0))) := (k184 6 rfl).trans f126
          have f191 : σ183 5 = V (.int .i64 w88) := (k184 5 rfl).trans f127
          have k192 : Keep [2, 5, 6] 38 79 σ80 σ183 := Keep.trans k121 (Keep.sub k184 rfl)
          refine k_nil ?_
          refine wpE_cond (p := y181) f185 (fun g193 => ?_) (fun g193 => ?_)
          · have h := ctrue h g193
            refine e_reg ?_
            refine k_mov rfl ?_
            refine k_nil ?_
            refine wpE_ret ?_
            obtain rfl := Option.some.inj h
            exact ⟨by decide, rfl, fun _ => e_ret (ct := 0) (.tmp rfl (back_sc rfl) .nil) rfl⟩
          · have h := cfalse h g193
            refine wpE_skip ?_
            show wpE _ _ _ _ _ _ _ _
            refine e_regD (by kernel_rfl) (by kernel_rfl) ?_
            refine k_mov f191 ?_
            refine k_bin rfl rfl rfl ?_
            refine k_mov rfl ?_
            refine gL fun σ194 e195 => ?_
            have k196 : Keep [2, 5, 6] 38 79 σ80 σ194 := by rw [e195]; repeat (first | exact k192 | refine Keep.upd ?_ rfl _)
            have f197 : σ194 1 = .v (.c (.r (.ptr 1 g5 0))) := (congrFun e195 1).trans f186
            have f198 : σ194 36 = .v (.c ((I v3))) := (congrFun e195 36).trans f187
            have f199 : σ194 37 = V (.int .i64 ((List.length x0.Holidays : Int))) := (congrFun e195 37).trans f188
            have f200 : σ194 38 = V (.int .i64 w88) := (congrFun e195 38).trans f189
            have f201 : σ194 6 = .v (.c (.r (.ptr 6 g105 0))) := (congrFun e195 6).trans f190
            have f202 : σ194 5 = V (.int .i64 w88) := (congrFun e195 5).trans f191
            have f203 : σ194 67 = V (.bool ((decide (w88 > ((0 : Int)))))) := (congrFun e195 67).trans rfl
            obtain ⟨y213, e214, h⟩ := obind h
            refine k_mid (fun σ' hp' _ => hp111 = hp' ∧ σ' 78 = V (.bool y213) ∧ Keep [] 68 78 σ194 σ') ?_ ?_
            · rcases bt ((decide (w88 > ((0 : Int))))) with g204 | g204
              · have h := ctrue e214 g204
                refine k_yes (f203.trans (cgB g204)) ?_
                refine k_fadrB (o := 0) f201 k112 ?_
                refine k_yes (f203.trans (cgB g204)) ?_
                refine k_loadB rfl k112 rfl ?_
                refine k_yes (f203.trans (cgB g204)) ?_
                refine k_fadrB (o := 3) f197 k115 ?_
                refine k_yes (f203.trans (cgB g204)) ?_
                refine k_loadB rfl k115 rfl ?_
                refine k_yes (f203.trans (cgB g204)) ?_
                refine k_mov f202 ?_
                refine k_yes (f203.trans (cgB g204)) ?_
                refine k_bin rfl rfl rfl ?_
                refine k_yes (f203.trans (cgB g204)) ?_
                obtain ⟨y205, e206, h⟩ := obind h
                refine k_iadrL rfl (sv.any [] _ q4) rfl e206 rfl fun p207 c208 q209 h210 => ?_
                obtain ⟨_, rfl⟩ := R_api_Holiday.inv h210
                refine k_yes (f203.trans (cgB g204)) ?_
                refine k_fadrL (o := 0) rfl q209 (Nat.le_of_ble_eq_true rfl) fun p211 q212 => ?_
                refine k_yes (f203.trans (cgB g204)) ?_
                refine k_loadL rfl q212 rfl ?_
                refine k_yes (f203.trans (cgB g204)) ?_
                refine k_bin rfl rfl rfl ?_
                refine k_pickT (f203.trans (cgB g204)) rfl ?_
                exact ⟨rfl, cgB (Option.some.inj h), (by repeat (first | exact (Keep.refl _ _ _ _) | refine Keep.upd ?_ rfl _))⟩
              · have h := cfalse e214 g204
                refine k_no (f203.trans (cgB g204)) rfl ?_
                refine k_no (f203.trans (cgB g204)) rfl ?_
                refine k_no (f203.trans (cgB g204)) rfl ?_
                refine k_no (f203.trans (cgB g204)) rfl ?_
                refine k_no (f203.trans (cgB g204)) rfl ?_
                refine k_no (f203.trans (cgB g204)) rfl ?_
                refine k_no (f203.trans (cgB g204)) rfl ?_
                refine k_no (f203.trans (cgB g204)) rfl ?_
                refine k_no (f203.trans (cgB g204)) rfl ?_
                refine k_no (f203.trans (cgB g204)) rfl ?_
                refine k_pickF (f203.trans (cgB g204)) rfl ?_
                exact ⟨rfl, cgB (Option.some.inj h), (by repeat (first | exact (Keep.refl _ _ _ _) | refine Keep.upd ?_ rfl _))⟩
            rintro σ215 _ _ ⟨rfl, f217, k216⟩
            have f218 : σ215 1 = .v (.c (.r (.ptr 1 g5 0))) := (k216 1 rfl).trans f197
            have f219 : σ215 36 = .v (.c ((I v3))) := (k216 36 rfl).trans f198
            have f220 : σ215 37 = V (.int .i64 ((List.length x0.Holidays : Int))) := (k216 37 rfl).trans f199
            have f221 : σ215 38 = V (.int .i64 w88) := (k216 38 rfl).trans f200
            have k222 : Keep [2, 5, 6] 38 79 σ80 σ215 := Keep.trans k196 (Keep.sub k216 rfl)
            refine k_nil ?_
            refine wpE_cond (p := y213) f217 (fun g223 => ?_) (fun g223 => ?_)
            · have h := ctrue h g223
              refine e_reg ?_
              refine k_mov rfl ?_
              refine k_nil ?_
              refine wpE_ret ?_
              obtain rfl := Option.some.inj h
              exact ⟨by decide, rfl, fun _ => e_ret (ct := 0) (.tmp rfl (back_sc rfl) .nil) rfl⟩
            · have h := cfalse h g223
              refine wpE_skip ?_
              show wpE _ _ _ _ _ _ _ _
              refine e_last ?_
              refine k_bin f221 rfl rfl ?_
              refine k_mov rfl ?_
              refine k_nil ?_
              obtain rfl := Option.some.inj h
              exact ⟨rfl, rfl, (by repeat (first | exact k222 | refine Keep.upd ?_ rfl _)), r114⟩
        · have h := cfalse h g98
          refine wpE_exit ?_
          obtain rfl := Option.some.inj h
          exact ⟨by decide, rfl, (by repeat (first | exact k92 | refine Keep.upd ?_ rfl _)), r93⟩
      rcases e86 with _ | r1
      rotate_left
      · rintro _ _ _ _ ⟨rfl, hX⟩
        obtain rfl := Option.some.inj h
        exact hX 0
      rintro _ σ224 hp225 _ ⟨rfl, k226, r227⟩
      show wpE _ _ _ _ _ _ _ _
      refine e_reg ?_
      refine k_mov rfl ?_
      refine k_nil ?_
      refine wpE_ret ?_
      obtain rfl := Option.some.inj h
      exact e_ret (ct := 0) (.tmp rfl (back_sc rfl) .nil) rfl
end Go.Proofs.YtcbepglkfglclaaDoor
